/- Plain laws of the plain functions: no program, no memory. By AI agents; no person has read it. -/
import Derived.Test.YtldkmmopfhhdgaaGreatDoorPV4
set_option linter.unusedVariables false
set_option linter.unusedSimpArgs false
set_option maxRecDepth 100000
set_option maxHeartbeats 40000000
namespace Go.Proofs.XC
open Go Go.RowKit
/-! ### Short texts -/
def el (b : Bool) (x : Str) : Str := if b then [61] else x
def mk4 (m o : Hand) : List Str := [el (qShape m.Shape o.Shape) (tShape o.Shape), el (qOrient m.Orient o.Orient) (tOrient o.Orient), el (qPlace m.Place o.Place) (tPlace o.Place), el (qMove m.Move o.Move) (tMove o.Move)]
def vShT (s : Sign) : Str := if s.Two then tHand s.Main ++ [43] ++ Lib.join (mk4 s.Main s.Other) [47] else tHand s.Main
theorem i_loop (q1 q2 q3 q4 : Bool) (a b d e : Str) : rangeM (fun (j9 : Int) (x10 : Bool) l2 => (bif x10 then (Option.bind (getI l2 (j9 : Int)) fun y8_2 => some (Sum.inl (List.set l2 (Int.toNat (j9 : Int)) ([61] : Str)))) else some (.inl l2))) (fun l2 => some l2) [q1, q2, q3, q4] 0 [a, b, d, e] = some [el q1 a, el q2 b, el q3 d, el q4 e] := by
  cases q1 <;> cases q2 <;> cases q3 <;> cases q4 <;> rfl
theorem join4 (a b d e : Str) : Lib.join [a, b, d, e] [47] = a ++ [47] ++ b ++ [47] ++ d ++ [47] ++ e := by
  simp [Lib.join, List.intercalate]
theorem st0 {ρ : Type} (t x y : Str) (ht : t.length ≤ 5000) (hx : x.length ≤ 1000) : (bif (seq x y) then (Option.bind (catS t ([61] : Str)) fun y12_2 => some (Sum.inl y12_2)) else (Option.bind (catS t x) fun y12_2 => some (Sum.inl y12_2))) = (some (Sum.inl (t ++ el (decide (x = y)) x)) : Option (Str ⊕ ρ)) := by
  rw [seq_eq, catS_of (by simp; omega), catS_of (by omega)]
  unfold el
  by_cases c : x = y <;> simp [c, bind_some]
theorem el_len {q : Bool} {x : Str} (h : x.length ≤ 30) : (el q x).length ≤ 30 := by
  unfold el
  split
  · simp
  · exact h
theorem s_loop (t a1 a2 a3 a4 b1 b2 b3 b4 : Str) (ht : t.length ≤ 100) (h1 : b1.length ≤ 30) (h2 : b2.length ≤ 30) (h3 : b3.length ≤ 30) (h4 : b4.length ≤ 30) :
    rangeM (fun (j5 : Int) (x6 : Str) t2 => (bif decide ((j5 : Int) > 0) then (Option.bind (catS t2 ([47] : Str)) fun y9_1 => (Option.bind (getI [a1, a2, a3, a4] (j5 : Int)) fun y10_3 => (bif (seq x6 y10_3) then (Option.bind (catS y9_1 ([61] : Str)) fun y12_2 => some (Sum.inl y12_2)) else (Option.bind (catS y9_1 x6) fun y12_2 => some (Sum.inl y12_2))))) else (Option.bind (getI [a1, a2, a3, a4] (j5 : Int)) fun y10_3 => (bif (seq x6 y10_3) then (Option.bind (catS t2 ([61] : Str)) fun y12_2 => some (Sum.inl y12_2)) else (Option.bind (catS t2 x6) fun y12_2 => some (Sum.inl y12_2)))))) (fun t2 => some t2) [b1, b2, b3, b4] 0 t =
    some (t ++ (el (decide (b1 = a1)) b1 ++ [47] ++ el (decide (b2 = a2)) b2 ++ [47] ++ el (decide (b3 = a3)) b3 ++ [47] ++ el (decide (b4 = a4)) b4)) := by
  have g0 : getI [a1, a2, a3, a4] ((0 : Nat) : Int) = some a1 := rfl
  have g1 : getI [a1, a2, a3, a4] ((0 + 1 : Nat) : Int) = some a2 := rfl
  have g2 : getI [a1, a2, a3, a4] ((0 + 1 + 1 : Nat) : Int) = some a3 := rfl
  have g3 : getI [a1, a2, a3, a4] ((0 + 1 + 1 + 1 : Nat) : Int) = some a4 := rfl
  have d0 : decide (((0 : Nat) : Int) > 0) = false := rfl
  have d1 : decide (((0 + 1 : Nat) : Int) > 0) = true := rfl
  have d2 : decide (((0 + 1 + 1 : Nat) : Int) > 0) = true := rfl
  have d3 : decide (((0 + 1 + 1 + 1 : Nat) : Int) > 0) = true := rfl
  have l1 := el_len (q := decide (b1 = a1)) h1
  have l2 := el_len (q := decide (b2 = a2)) h2
  have l3 := el_len (q := decide (b3 = a3)) h3
  rw [rangeM_cons, d0, cond_false, g0, bind_some, st0 _ _ _ (by omega) (by omega), bind_some]
  simp only
  rw [rangeM_cons, d1, cond_true, catS_of (by simp; omega), bind_some, g1, bind_some, st0 _ _ _ (by simp; omega) (by omega), bind_some]
  simp only
  rw [rangeM_cons, d2, cond_true, catS_of (by simp; omega), bind_some, g2, bind_some, st0 _ _ _ (by simp; omega) (by omega), bind_some]
  simp only
  rw [rangeM_cons, d3, cond_true, catS_of (by simp; omega), bind_some, g3, bind_some, st0 _ _ _ (by simp; omega) (by omega), bind_some]
  simp [rangeM_nil]
end Go.Proofs.XC
