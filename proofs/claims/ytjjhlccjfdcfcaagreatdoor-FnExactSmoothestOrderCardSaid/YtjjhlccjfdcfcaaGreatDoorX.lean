/- What each function of the given program reckons, as plain Lean functions (none: it would panic there, or a bound is passed). By AI agents; no person has read it. -/
import Derived.Test.YtjjhlccjfdcfcaaGreatDoorCore2
import Derived.Lib.Split
import Derived.Lib.AtoiAll
import Derived.Lib.Join
import Derived.Lib.ItoaNum
import Derived.Lib.Repeat
import Derived.Lib.Bytealg
set_option linter.unusedVariables false
set_option linter.unusedSimpArgs false
set_option maxRecDepth 100000
set_option maxHeartbeats 40000000
namespace Go.Proofs.XC
open Go Go.RowKit
structure Shape where
  Thumb : Int
  Index : Int
  Middle : Int
  Ring : Int
  Little : Int
  Spread : Bool
deriving DecidableEq
def eShape (s : Shape) : List Value := [.int .i64 s.Thumb, .int .i64 s.Index, .int .i64 s.Middle, .int .i64 s.Ring, .int .i64 s.Little, .bool s.Spread]
def zShape : Shape := ⟨0, 0, 0, 0, 0, false⟩
def qShape (a b : Shape) : Bool := ((a.Thumb == b.Thumb) && ((a.Index == b.Index) && ((a.Middle == b.Middle) && ((a.Ring == b.Ring) && ((a.Little == b.Little) && ((a.Spread == b.Spread) && true))))))
def nShape : Enc Shape := ⟨eShape, 6, 48, fun _ => rfl, fun x => List.all_eq_true.1 (rfl : (eShape x).all (·.oneCell') = true), by decide⟩
structure Orient where
  Palm : Int
  Fingers : Int
deriving DecidableEq
def eOrient (s : Orient) : List Value := [.int .i64 s.Palm, .int .i64 s.Fingers]
def zOrient : Orient := ⟨0, 0⟩
def qOrient (a b : Orient) : Bool := ((a.Palm == b.Palm) && ((a.Fingers == b.Fingers) && true))
def nOrient : Enc Orient := ⟨eOrient, 2, 16, fun _ => rfl, fun x => List.all_eq_true.1 (rfl : (eOrient x).all (·.oneCell') = true), by decide⟩
structure Place where
  Region : Int
  Side : Int
  Contact : Bool
deriving DecidableEq
def ePlace (s : Place) : List Value := [.int .i64 s.Region, .int .i64 s.Side, .bool s.Contact]
def zPlace : Place := ⟨0, 0, false⟩
def qPlace (a b : Place) : Bool := ((a.Region == b.Region) && ((a.Side == b.Side) && ((a.Contact == b.Contact) && true)))
def nPlace : Enc Place := ⟨ePlace, 3, 24, fun _ => rfl, fun x => List.all_eq_true.1 (rfl : (ePlace x).all (·.oneCell') = true), by decide⟩
structure Move where
  Steps : Str
  Repeat : Int
deriving DecidableEq
def eMove (s : Move) : List Value := [.string (bs s.Steps), .int .i64 s.Repeat]
def zMove : Move := ⟨([] : Str), 0⟩
def qMove (a b : Move) : Bool := ((seq a.Steps b.Steps) && ((a.Repeat == b.Repeat) && true))
def nMove : Enc Move := ⟨eMove, 2, 24, fun _ => rfl, fun x => List.all_eq_true.1 (rfl : (eMove x).all (·.oneCell') = true), by decide⟩
structure Hand where
  Shape : Shape
  Orient : Orient
  Place : Place
  Move : Move
deriving DecidableEq
def eHand (s : Hand) : List Value := eShape s.Shape ++ (eOrient s.Orient ++ (ePlace s.Place ++ (eMove s.Move)))
def zHand : Hand := ⟨zShape, zOrient, zPlace, zMove⟩
def qHand (a b : Hand) : Bool := ((qShape a.Shape b.Shape) && ((qOrient a.Orient b.Orient) && ((qPlace a.Place b.Place) && ((qMove a.Move b.Move) && true))))
def nHand : Enc Hand := ⟨eHand, 13, 112, fun _ => rfl, fun x => List.all_eq_true.1 (rfl : (eHand x).all (·.oneCell') = true), by decide⟩
structure Sign where
  Main : Hand
  Two : Bool
  Other : Hand
deriving DecidableEq
def eSign (s : Sign) : List Value := eHand s.Main ++ ([.bool s.Two] ++ (eHand s.Other))
def zSign : Sign := ⟨zHand, false, zHand⟩
def qSign (a b : Sign) : Bool := ((qHand a.Main b.Main) && ((a.Two == b.Two) && ((qHand a.Other b.Other) && true)))
def nSign : Enc Sign := ⟨eSign, 27, 232, fun _ => rfl, fun x => List.all_eq_true.1 (rfl : (eSign x).all (·.oneCell') = true), by decide⟩
def okShape (s : Shape) : Prop := okI s.Thumb ∧ okI s.Index ∧ okI s.Middle ∧ okI s.Ring ∧ okI s.Little ∧ okB s.Spread
def okOrient (s : Orient) : Prop := okI s.Palm ∧ okI s.Fingers
def okPlace (s : Place) : Prop := okI s.Region ∧ okI s.Side ∧ okB s.Contact
def okMove (s : Move) : Prop := okS s.Steps ∧ okI s.Repeat
def okHand (s : Hand) : Prop := okShape s.Shape ∧ okOrient s.Orient ∧ okPlace s.Place ∧ okMove s.Move
def okSign (s : Sign) : Prop := okHand s.Main ∧ okB s.Two ∧ okHand s.Other
def X.s_l1In (a0 : Int) (a1 : Int) (a2 : Int) : Option Bool :=
  (bif decide (a0 ≥ a1) then some (decide (a0 ≤ a2)) else some false)
def X.s_shFingers (a0 : Shape) : Option (List Int) :=
  some ([a0.Index, a0.Middle, a0.Ring, a0.Little] : List Int)
def X.s_l1All (a0 : (List Int)) (a1 : Int) (a2 : Int) : Option Bool :=
  (orEl (rangeM (fun (j2 : Int) (x3 : Int) _ => (Option.bind (X.s_l1In x3 a1 a2) fun v4_3 => (bif (!v4_3) then some (.inr (.inl false)) else some (.inl ())))) (fun _ => some (.inr ())) a0 0 ()) (fun r => some r) (fun _ => some true))
def X.s_shWide (fu : Nat) (a0 : Shape) : Option Bool :=
  (Option.bind (X.s_shFingers a0) fun v1_1 => (orEl (loopM (fun n1 => (bif decide (n1 < 4) then (Option.bind (getI v1_1 (wr (n1 - 1))) fun y5_3 => (bif (y5_3 == 0) then (Option.bind (getI v1_1 n1) fun y5_9 => (bif (y5_9 == 0) then some (.inr (.inl true)) else some (.inl (wr (n1 + 1))))) else some (.inl (wr (n1 + 1))))) else some (.inr (.inr ())))) fu 1) (fun r => some r) (fun _ => some false)))
def X.s_shGood (fu : Nat) (a0 : Shape) : Option Bool :=
  (Option.bind (X.s_l1In a0.Thumb 0 2) fun v1_2 => (bif v1_2 then (Option.bind (X.s_shFingers a0) fun v1_5 => (Option.bind (X.s_l1All v1_5 0 2) fun v1_6 => (bif v1_6 then (bif (!a0.Spread) then some true else (Option.bind (X.s_shWide fu a0) fun v1_14 => some v1_14)) else some false))) else some false))
def X.s_shParse (fu : Nat) (a0 : Str) : Option (Shape × Bool) :=
  (Option.bind (X.s_l1In (List.length a0 : Int) 5 6) fun v1_2 => (bif (!v1_2) then some (zShape, false) else (bif ((List.length a0 : Int) == 6) then (Option.bind (getB a0 5) fun y1_10 => (bif (y1_10 != 115) then some (zShape, false) else (Option.bind (loopM (fun ⟨n4, l5⟩ => (bif decide (n4 < 5) then (Option.bind (getB a0 n4) fun y7_3 => (Option.bind (appG (eI .i64) l5 ([(wr ((wr y7_3) - 48))] : List Int)) fun y7_7 => some (.inl ((wr (n4 + 1)), y7_7)))) else some (.inr l5))) fu (0, ([] : List Int))) fun l8 => (Option.bind (getI l8 0) fun y8_1 => (Option.bind (getI l8 1) fun y8_4 => (Option.bind (getI l8 2) fun y8_7 => (Option.bind (getI l8 3) fun y8_10 => (Option.bind (getI l8 4) fun y8_13 => (Option.bind (X.s_shGood fu (⟨y8_1, y8_4, y8_7, y8_10, y8_13, ((List.length a0 : Int) == 6)⟩ : Shape)) fun v9_1 => (bif (!v9_1) then some (zShape, false) else some ((⟨y8_1, y8_4, y8_7, y8_10, y8_13, ((List.length a0 : Int) == 6)⟩ : Shape), true))))))))))) else (Option.bind (loopM (fun ⟨n14, l15⟩ => (bif decide (n14 < 5) then (Option.bind (getB a0 n14) fun y7_3 => (Option.bind (appG (eI .i64) l15 ([(wr ((wr y7_3) - 48))] : List Int)) fun y7_7 => some (.inl ((wr (n14 + 1)), y7_7)))) else some (.inr l15))) fu (0, ([] : List Int))) fun l18 => (Option.bind (getI l18 0) fun y8_1 => (Option.bind (getI l18 1) fun y8_4 => (Option.bind (getI l18 2) fun y8_7 => (Option.bind (getI l18 3) fun y8_10 => (Option.bind (getI l18 4) fun y8_13 => (Option.bind (X.s_shGood fu (⟨y8_1, y8_4, y8_7, y8_10, y8_13, ((List.length a0 : Int) == 6)⟩ : Shape)) fun v9_1 => (bif (!v9_1) then some (zShape, false) else some ((⟨y8_1, y8_4, y8_7, y8_10, y8_13, ((List.length a0 : Int) == 6)⟩ : Shape), true))))))))))))
def X.s_orDir (a0 : Int) : Option Bool :=
  (Option.bind (X.s_l1In a0 0 5) fun v1_1 => some v1_1)
def X.s_orOpposite (a0 : Int) : Option Int :=
  (bif ((Int.tmod a0 2) == 0) then some (wr (a0 + 1)) else some (wr (a0 - 1)))
def X.s_orGood (a0 : Orient) : Option Bool :=
  (Option.bind (X.s_orDir a0.Palm) fun v1_2 => (bif v1_2 then (Option.bind (X.s_orDir a0.Fingers) fun v1_6 => (bif v1_6 then (bif (a0.Palm != a0.Fingers) then (Option.bind (X.s_orOpposite a0.Fingers) fun v1_20 => some (a0.Palm != v1_20)) else some false) else some false)) else some false))
def X.s_plGood (a0 : Place) : Option Bool :=
  (Option.bind (X.s_l1In a0.Region 0 9) fun v1_2 => (bif v1_2 then (Option.bind (X.s_l1In a0.Side (-1) 1) fun v1_6 => (bif v1_6 then (bif decide (a0.Region > 0) then some true else some (!a0.Contact)) else some false)) else some false))
def X.s_mvLetters : Option Str :=
  some ([117, 100, 108, 114, 102, 98] : Str)
def X.s_mvIndex (fu : Nat) (a0 : Int) : Option Int :=
  (orEl (loopM (fun n1 => (Option.bind X.s_mvLetters fun v2_1 => (bif decide (n1 < (List.length v2_1 : Int)) then (Option.bind X.s_mvLetters fun v4_0 => (Option.bind (getB v4_0 n1) fun y4_2 => (bif (y4_2 == a0) then some (.inr (.inl n1)) else some (.inl (wr (n1 + 1)))))) else some (.inr (.inr ()))))) fu 0) (fun r => some r) (fun _ => some (-1)))
def X.s_mvSteps (fu : Nat) (a0 : Str) : Option Bool :=
  (orEl (loopM (fun n1 => (bif decide (n1 < (List.length a0 : Int)) then (Option.bind (getB a0 n1) fun y4_2 => (Option.bind (X.s_mvIndex fu y4_2) fun v4_3 => (bif decide (v4_3 < 0) then some (.inr (.inl false)) else some (.inl (wr (n1 + 1)))))) else some (.inr (.inr ())))) fu 0) (fun r => some r) (fun _ => some true))
def X.s_mvGood (fu : Nat) (a0 : Move) : Option Bool :=
  (bif decide ((List.length a0.Steps : Int) ≤ 6) then (Option.bind (X.s_mvSteps fu a0.Steps) fun v1_7 => (bif v1_7 then (Option.bind (X.s_l1In a0.Repeat 1 3) fun v1_12 => (bif v1_12 then (bif (!seq a0.Steps ([] : Str)) then some true else some (a0.Repeat == 1)) else some false)) else some false)) else some false)
def X.s_mvTimes (fu : Nat) (a0 : Str) (a1 : Int) : Option Str :=
  (Option.bind (loopM (fun ⟨n1, t2⟩ => (bif decide (n1 > 0) then (Option.bind (catS t2 a0) fun y4_2 => some (.inl ((wr (n1 - 1)), y4_2))) else some (.inr t2))) fu (a1, ([] : Str))) fun t3 => some t3)
def X.s_mvAll (fu : Nat) (a0 : Move) : Option Str :=
  (Option.bind (X.s_mvTimes fu a0.Steps a0.Repeat) fun v1_4 => some v1_4)
def X.s_siPlain (fu : Nat) : Option (List Shape) :=
  (Option.bind (rangeM (fun (j8 : Int) (x9 : Str) l1 => (Option.bind (X.s_shParse fu x9) fun v5_1 => (Option.bind (appG nShape l1 ([v5_1.1] : List Shape)) fun y6_3 => some (.inl y6_3)))) (fun l1 => some l1) ([([48, 48, 48, 48, 48] : Str), ([48, 48, 48, 48, 48, 115] : Str), ([50, 50, 50, 50, 50] : Str), ([49, 48, 48, 48, 48] : Str), ([49, 48, 50, 50, 50] : Str), ([48, 48, 50, 50, 50] : Str)] : List Str) 0 ([] : List Shape)) fun l4 => some l4)
def X.s_orSwap (a0 : Int) : Option Int :=
  (bif (a0 == 2) then (Option.bind (X.s_orOpposite a0) fun v2_1 => some v2_1) else (bif (a0 == 3) then (Option.bind (X.s_orOpposite a0) fun v2_1 => some v2_1) else some a0))
def X.s_orMirror (a0 : Orient) : Option Orient :=
  (Option.bind (X.s_orSwap a0.Palm) fun v1_2 => (Option.bind (X.s_orSwap a0.Fingers) fun v1_5 => some (⟨v1_2, v1_5⟩ : Orient)))
def X.s_mvMirror (fu : Nat) (a0 : Move) : Option Move :=
  (Option.bind (loopM (fun ⟨t1, n2⟩ => (bif decide (n2 < (List.length a0.Steps : Int)) then (Option.bind (getB a0.Steps n2) fun y5_3 => (bif (y5_3 == 108) then (Option.bind (catS t1 ([114] : Str)) fun y8_1 => some (.inl (y8_1, (wr (n2 + 1))))) else (bif (y5_3 == 114) then (Option.bind (catS t1 ([108] : Str)) fun y10_1 => some (.inl (y10_1, (wr (n2 + 1))))) else (Option.bind (cutS a0.Steps n2 (wr (n2 + 1))) fun y6_6 => (Option.bind (catS t1 y6_6) fun y6_7 => some (.inl (y6_7, (wr (n2 + 1))))))))) else some (.inr t1))) fu (([] : Str), 0)) fun t3 => some ({ a0 with Steps := t3 }))
def X.s_siBroken (fu : Nat) (a0 : Hand) (a1 : Hand) : Option Int :=
  (bif (seq a1.Move.Steps ([] : Str)) then (bif (qShape a0.Shape a1.Shape) then some 0 else (Option.bind (X.s_siPlain fu) fun v4_0 => (orEl (rangeM (fun (j4 : Int) (x5 : Shape) _ => (bif (qShape x5 a1.Shape) then some (.inr (.inl 0)) else some (.inl ()))) (fun _ => some (.inr ())) v4_0 0 ()) (fun r => some r) (fun _ => some 4)))) else (bif (seq a0.Move.Steps ([] : Str)) then some 3 else (bif (!qShape a0.Shape a1.Shape) then some 1 else (bif (!qOrient a0.Orient a1.Orient) then (Option.bind (X.s_orMirror a1.Orient) fun v15_10 => (bif (!qOrient a0.Orient v15_10) then some 2 else (Option.bind (X.s_mvAll fu a0.Move) fun v17_2 => (Option.bind (X.s_mvAll fu a1.Move) fun v17_5 => (bif (!seq v17_2 v17_5) then (Option.bind (X.s_mvMirror fu a0.Move) fun v17_10 => (Option.bind (X.s_mvAll fu v17_10) fun v17_11 => (Option.bind (X.s_mvAll fu a1.Move) fun v17_14 => (bif (!seq v17_11 v17_14) then some 3 else some 0)))) else some 0))))) else (Option.bind (X.s_mvAll fu a0.Move) fun v17_2 => (Option.bind (X.s_mvAll fu a1.Move) fun v17_5 => (bif (!seq v17_2 v17_5) then (Option.bind (X.s_mvMirror fu a0.Move) fun v17_10 => (Option.bind (X.s_mvAll fu v17_10) fun v17_11 => (Option.bind (X.s_mvAll fu a1.Move) fun v17_14 => (bif (!seq v17_11 v17_14) then some 3 else some 0)))) else some 0)))))))
def X.strconv_Itoa (a0 : Int) : Option Str := if 0 ≤ a0 ∧ a0 < 100 then some (Lib.decDigits a0.toNat) else none
def X.i_Shape_bends (a0 : Shape) : Option (List Int) :=
  some ([a0.Index, a0.Middle, a0.Ring, a0.Little] : List Int)
def X.i_Shape_text (a0 : Shape) : Option Str :=
  (Option.bind (X.strconv_Itoa a0.Thumb) fun v1_2 => (Option.bind (X.i_Shape_bends a0) fun v2_1 => (Option.bind (rangeM (fun (j4 : Int) (x5 : Int) t1 => (Option.bind (X.strconv_Itoa x5) fun v5_2 => (Option.bind (catS t1 v5_2) fun y5_3 => some (.inl y5_3)))) (fun t1 => some t1) v2_1 0 v1_2) fun t2 => (bif a0.Spread then (Option.bind (catS t2 ([115] : Str)) fun y8_1 => some y8_1) else some t2))))
def X.slices_IndexFunc_int_int (a0 : (List Int)) (a1 : (Int → Option Bool)) : Option Int :=
  (orEl (rangeM (fun (j2 : Int) (x3 : Int) _ => (Option.bind (a1 x3) fun v4_5 => (bif v4_5 then some (.inr (.inl (j2 : Int))) else some (.inl ())))) (fun _ => some (.inr ())) a0 0 ()) (fun r => some r) (fun _ => some (-1)))
def X.slices_ContainsFunc_int_int (a0 : (List Int)) (a1 : (Int → Option Bool)) : Option Bool :=
  (Option.bind (X.slices_IndexFunc_int_int a0 a1) fun v1_2 => some (decide (v1_2 ≥ 0)))
def X.i_within (a0 : Int) (a1 : Int) (a2 : Int) : Option Bool :=
  (bif decide (a0 ≥ a1) then some (decide (a0 ≤ a2)) else some false)
def X.i_allWithin_1 (a1 : Int) (a2 : Int) (a0 : Int) : Option Bool :=
  (Option.bind (X.i_within a0 a1 a2) fun v1_3 => some (!v1_3))
def X.i_allWithin (a0 : (List Int)) (a1 : Int) (a2 : Int) : Option Bool :=
  (Option.bind (X.slices_ContainsFunc_int_int a0 (X.i_allWithin_1 a1 a2)) fun v1_2 => some (!v1_2))
def X.i_Shape_maySpread (a0 : Shape) : Option Bool :=
  (bif (a0.Middle == 0) then (bif (a0.Index == 0) then some true else (bif (a0.Ring == 0) then some true else some false)) else (bif (a0.Ring == 0) then some (a0.Little == 0) else some false))
def X.i_IsShape (a0 : Shape) : Option Bool :=
  (Option.bind (Option.bind (X.i_Shape_bends a0) fun v1_4 => (Option.bind (appG (eI .i64) ([a0.Thumb] : List Int) v1_4) fun y1_5 => (Option.bind (X.i_allWithin y1_5 0 2) fun v1_6 => some ((!v1_6), y1_5, v1_4)))) fun ⟨b1, l2, l5⟩ => (bif b1 then some false else (bif (!a0.Spread) then some true else (Option.bind (X.i_Shape_maySpread a0) fun v3_5 => some v3_5))))
def X.i_Shape_with (a0 : Shape) (a1 : Int) (a2 : Int) : Option Shape :=
  (bif (a1 == 0) then (bif a0.Spread then (Option.bind (X.i_Shape_maySpread ({ a0 with Thumb := a2 })) fun v11_4 => some ({ a0 with Thumb := a2, Spread := v11_4 })) else some ({ a0 with Thumb := a2, Spread := false })) else (bif (a1 == 1) then (bif a0.Spread then (Option.bind (X.i_Shape_maySpread ({ a0 with Index := a2 })) fun v11_4 => some ({ a0 with Index := a2, Spread := v11_4 })) else some ({ a0 with Index := a2, Spread := false })) else (bif (a1 == 2) then (bif a0.Spread then (Option.bind (X.i_Shape_maySpread ({ a0 with Middle := a2 })) fun v11_4 => some ({ a0 with Middle := a2, Spread := v11_4 })) else some ({ a0 with Middle := a2, Spread := false })) else (bif (a1 == 3) then (bif a0.Spread then (Option.bind (X.i_Shape_maySpread ({ a0 with Ring := a2 })) fun v11_4 => some ({ a0 with Ring := a2, Spread := v11_4 })) else some ({ a0 with Ring := a2, Spread := false })) else (bif a0.Spread then (Option.bind (X.i_Shape_maySpread ({ a0 with Little := a2 })) fun v11_4 => some ({ a0 with Little := a2, Spread := v11_4 })) else some ({ a0 with Little := a2, Spread := false }))))))
def X.i_ParseShape (fu : Nat) (a0 : Str) : Option (Shape × Bool) :=
  (Option.bind (X.i_within (List.length a0 : Int) 5 6) fun v1_2 => (bif (!v1_2) then some (zShape, false) else (Option.bind (loopM (fun ⟨n2, s3⟩ => (bif decide (n2 < 5) then (Option.bind (getB a0 n2) fun y7_4 => (Option.bind (X.i_Shape_with s3 n2 (wr ((wr y7_4) - 48))) fun v7_7 => some (.inl ((wr (n2 + 1)), v7_7)))) else some (.inr s3))) fu (0, zShape)) fun s4 => (Option.bind (X.i_IsShape ({ s4 with Spread := ((List.length a0 : Int) == 6) })) fun v10_1 => (bif (!v10_1) then some (zShape, false) else (Option.bind (X.i_Shape_text ({ s4 with Spread := ((List.length a0 : Int) == 6) })) fun v10_5 => (bif (!seq v10_5 a0) then some (zShape, false) else some ({ s4 with Spread := ((List.length a0 : Int) == 6) }, true))))))))
def X.i_IsOrient (a0 : Orient) : Option Bool :=
  (Option.bind (X.i_within a0.Palm 0 5) fun v1_2 => (bif v1_2 then (Option.bind (X.i_within a0.Fingers 0 5) fun v1_6 => (bif v1_6 then some ((wr (Int.tdiv a0.Palm 2)) != (wr (Int.tdiv a0.Fingers 2))) else some false)) else some false))
def X.strings_IndexByte (a0 : Str) (a1 : Int) : Option Int := some (Lib.indexByte a0 a1.toNat.toUInt8)
def X.i_IsPlace (a0 : Place) : Option Bool :=
  (Option.bind (X.i_within a0.Region 0 9) fun v1_2 => (bif v1_2 then (Option.bind (X.i_within a0.Side (-1) 1) fun v1_6 => (bif v1_6 then (bif a0.Contact then some (!(a0.Region == 0)) else some true) else some false)) else some false))
def X.i_hasOnly (a0 : Str) (a1 : Str) : Option Bool :=
  (orEl (rangeN (fun (j2 : Int) _ => (Option.bind (getB a0 (j2 : Int)) fun y4_3 => (Option.bind (X.strings_IndexByte a1 y4_3) fun v4_4 => (bif decide (v4_4 < 0) then some (.inr (.inl false)) else some (.inl ()))))) (fun _ => some (.inr ())) (List.length a0 : Int) ()) (fun r => some r) (fun _ => some true))
def X.i_IsMove (a0 : Move) : Option Bool :=
  (bif decide ((List.length a0.Steps : Int) ≤ 6) then (Option.bind (X.i_hasOnly a0.Steps ([117, 100, 108, 114, 102, 98] : Str)) fun v1_7 => (bif v1_7 then (Option.bind (X.i_within a0.Repeat 1 3) fun v1_12 => (bif v1_12 then (bif (!seq a0.Steps ([] : Str)) then some true else some (a0.Repeat == 1)) else some false)) else some false)) else some false)
def X.strings_Repeat (a0 : Str) (a1 : Int) : Option Str := if 0 ≤ a1 ∧ a1 ≤ 9223372036854775807 ∧ a0.length * a1.toNat ≤ 140737488355328 then some (Lib.repeatL a0 a1.toNat) else none
def X.i_Move_all (a0 : Move) : Option Str :=
  (Option.bind (X.strings_Repeat a0.Steps a0.Repeat) fun v1_4 => some v1_4)
def X.i_Hand_moves (a0 : Hand) : Option Bool :=
  some (!seq a0.Move.Steps ([] : Str))
def X.slices_Index_i_Shape_i_Shape (a0 : (List Shape)) (a1 : Shape) : Option Int :=
  (orEl (rangeM (fun (j2 : Int) (x3 : Shape) _ => (bif (qShape a1 x3) then some (.inr (.inl (j2 : Int))) else some (.inl ()))) (fun _ => some (.inr ())) a0 0 ()) (fun r => some r) (fun _ => some (-1)))
def X.slices_Contains_i_Shape_i_Shape (a0 : (List Shape)) (a1 : Shape) : Option Bool :=
  (Option.bind (X.slices_Index_i_Shape_i_Shape a0 a1) fun v1_2 => some (decide (v1_2 ≥ 0)))
def X.i_PlainShapes (fu : Nat) : Option (List Shape) :=
  (Option.bind (rangeM (fun (j8 : Int) (x9 : Str) l1 => (Option.bind (X.i_ParseShape fu x9) fun v5_1 => (Option.bind (appG nShape l1 ([v5_1.1] : List Shape)) fun y6_3 => some (.inl y6_3)))) (fun l1 => some l1) ([([48, 48, 48, 48, 48] : Str), ([48, 48, 48, 48, 48, 115] : Str), ([50, 50, 50, 50, 50] : Str), ([49, 48, 48, 48, 48] : Str), ([49, 48, 50, 50, 50] : Str), ([48, 48, 50, 50, 50] : Str)] : List Str) 0 ([] : List Shape)) fun l4 => some l4)
def X.i_Orient_mirrored_1 (a0 : Int) : Option Int :=
  (bif (a0 == 2) then some (wr (Int.ofNat (BitVec.ofInt (IntKind.bits .i64) a0 ^^^ BitVec.ofInt (IntKind.bits .i64) 1).toNat)) else (bif (a0 == 3) then some (wr (Int.ofNat (BitVec.ofInt (IntKind.bits .i64) a0 ^^^ BitVec.ofInt (IntKind.bits .i64) 1).toNat)) else some a0))
def X.i_Orient_mirrored (a0 : Orient) : Option Orient :=
  (Option.bind (X.i_Orient_mirrored_1 a0.Palm) fun v2_3 => (Option.bind (X.i_Orient_mirrored_1 a0.Fingers) fun v2_7 => some (⟨v2_3, v2_7⟩ : Orient)))
def X.i_Move_mirrored (a0 : Move) : Option Move := if a0.Steps.length ≤ 9223372036854775807 then some ⟨a0.Steps.map swapLR, a0.Repeat⟩ else none
def X.i_keepRules (fu : Nat) (a0 : Hand) (a1 : Hand) : Option Bool :=
  (Option.bind (X.i_Hand_moves a1) fun v1_1 => (bif (!v1_1) then (bif (qShape a1.Shape a0.Shape) then some true else (Option.bind (X.i_PlainShapes fu) fun v2_6 => (Option.bind (X.slices_Contains_i_Shape_i_Shape v2_6 a1.Shape) fun v2_9 => some v2_9))) else (bif (qOrient a1.Orient a0.Orient) then (Option.bind (X.i_Move_all a1.Move) fun v4_2 => (Option.bind (X.i_Move_all a0.Move) fun v4_5 => (bif (seq v4_2 v4_5) then (Option.bind (X.i_Hand_moves a0) fun v5_1 => (bif v5_1 then (bif (qShape a0.Shape a1.Shape) then some true else some false) else some false)) else (Option.bind (X.i_Move_all a1.Move) fun v4_10 => (Option.bind (X.i_Move_mirrored a0.Move) fun v4_13 => (Option.bind (X.i_Move_all v4_13) fun v4_14 => (Option.bind (X.i_Hand_moves a0) fun v5_1 => (bif v5_1 then (bif (qShape a0.Shape a1.Shape) then some (seq v4_10 v4_14) else some false) else some false)))))))) else (Option.bind (X.i_Orient_mirrored a0.Orient) fun v3_10 => (Option.bind (X.i_Move_all a1.Move) fun v4_2 => (Option.bind (X.i_Move_all a0.Move) fun v4_5 => (bif (seq v4_2 v4_5) then (Option.bind (X.i_Hand_moves a0) fun v5_1 => (bif v5_1 then (bif (qShape a0.Shape a1.Shape) then (bif (qOrient a1.Orient v3_10) then some true else some false) else some false) else some false)) else (Option.bind (X.i_Move_all a1.Move) fun v4_10 => (Option.bind (X.i_Move_mirrored a0.Move) fun v4_13 => (Option.bind (X.i_Move_all v4_13) fun v4_14 => (Option.bind (X.i_Hand_moves a0) fun v5_1 => (bif v5_1 then (bif (qShape a0.Shape a1.Shape) then (bif (qOrient a1.Orient v3_10) then some (seq v4_10 v4_14) else some false) else some false) else some false))))))))))))
def X.s_siHand (fu : Nat) (a0 : Hand) : Option Bool :=
  (Option.bind (X.s_shGood fu a0.Shape) fun v1_2 => (bif v1_2 then (Option.bind (X.s_orGood a0.Orient) fun v1_6 => (bif v1_6 then (Option.bind (X.s_plGood a0.Place) fun v1_11 => (bif v1_11 then (Option.bind (X.s_mvGood fu a0.Move) fun v1_16 => some v1_16) else some false)) else some false)) else some false))
def X.s_siGood (fu : Nat) (a0 : Sign) : Option Bool :=
  (Option.bind (X.s_siHand fu a0.Main) fun v1_2 => (bif (!v1_2) then some false else (bif (!a0.Two) then some (qHand a0.Other zHand) else (Option.bind (X.s_siHand fu a0.Other) fun v5_2 => (bif v5_2 then (Option.bind (X.s_siBroken fu a0.Main a0.Other) fun v5_8 => some (v5_8 == 0)) else some false)))))
def X.i_IsHand (a0 : Hand) : Option Bool :=
  (Option.bind (X.i_IsShape a0.Shape) fun v1_2 => (bif v1_2 then (Option.bind (X.i_IsOrient a0.Orient) fun v1_6 => (bif v1_6 then (Option.bind (X.i_IsPlace a0.Place) fun v1_11 => (bif v1_11 then (Option.bind (X.i_IsMove a0.Move) fun v1_16 => some v1_16) else some false)) else some false)) else some false))
def X.i_IsSign (fu : Nat) (a0 : Sign) : Option Bool :=
  (Option.bind (X.i_IsHand a0.Main) fun v1_2 => (bif (!v1_2) then some false else (bif (!a0.Two) then some (qHand a0.Other zHand) else (Option.bind (X.i_IsHand a0.Other) fun v5_2 => (bif v5_2 then (Option.bind (X.i_keepRules fu a0.Main a0.Other) fun v5_8 => some v5_8) else some false)))))
def X.slices_IndexFunc_i_Sign_i_Sign (a0 : (List Sign)) (a1 : (Sign → Option Bool)) : Option Int :=
  (orEl (rangeM (fun (j2 : Int) (x3 : Sign) _ => (Option.bind (a1 x3) fun v4_5 => (bif v4_5 then some (.inr (.inl (j2 : Int))) else some (.inl ())))) (fun _ => some (.inr ())) a0 0 ()) (fun r => some r) (fun _ => some (-1)))
def X.slices_ContainsFunc_i_Sign_i_Sign (a0 : (List Sign)) (a1 : (Sign → Option Bool)) : Option Bool :=
  (Option.bind (X.slices_IndexFunc_i_Sign_i_Sign a0 a1) fun v1_2 => some (decide (v1_2 ≥ 0)))
def X.i_allOf_i_Sign_1 (a1 : (Sign → Option Bool)) (a0 : Sign) : Option Bool :=
  (Option.bind (a1 a0) fun v1_2 => some (!v1_2))
def X.i_allOf_i_Sign (a0 : (List Sign)) (a1 : (Sign → Option Bool)) : Option Bool :=
  (Option.bind (X.slices_ContainsFunc_i_Sign_i_Sign a0 (X.i_allOf_i_Sign_1 a1)) fun v1_2 => some (!v1_2))
def X.i_areSigns (fu : Nat) (a0 : (List Sign)) (a1 : Int) : Option Bool :=
  (bif decide ((List.length a0 : Int) ≤ a1) then (Option.bind (X.i_allOf_i_Sign a0 (X.i_IsSign fu)) fun v1_6 => some v1_6) else some false)
def X.i_isMade (fu : Nat) (a0 : (List Sign)) : Option Bool :=
  (bif decide ((List.length a0 : Int) ≥ 2) then (Option.bind (X.i_areSigns fu a0 4) fun v1_5 => some v1_5) else some false)
def X.i_distance (a0 : Int) (a1 : Int) : Option Int :=
  some (if (wr (a1 - a0)) > (wr (a0 - a1)) then (wr (a1 - a0)) else (wr (a0 - a1)))
def X.i_Place_distance (a0 : Place) (a1 : Place) : Option Int :=
  (Option.bind (X.i_distance a0.Side a1.Side) fun v1_4 => (bif (!(a0.Contact == a1.Contact)) then (bif (!((a0.Region == 0) == (a1.Region == 0))) then some (wr ((wr (v1_4 + 1)) + 4)) else (Option.bind (X.i_distance a0.Region a1.Region) fun v6_5 => some (wr ((wr (v1_4 + 1)) + v6_5)))) else (bif (!((a0.Region == 0) == (a1.Region == 0))) then some (wr (v1_4 + 4)) else (Option.bind (X.i_distance a0.Region a1.Region) fun v6_5 => some (wr (v1_4 + v6_5))))))
def X.i_gap (a0 : Sign) (a1 : Sign) : Option Int :=
  (Option.bind (X.i_Place_distance a0.Main.Place a1.Main.Place) fun v1_6 => (bif (!(a0.Two == a1.Two)) then some (wr (v1_6 + 1)) else some v1_6))
def X.i_gapsIn (fu : Nat) (a0 : (List Sign)) : Option Int :=
  (Option.bind (loopM (fun ⟨n1, n2⟩ => (bif decide (n2 < (List.length a0 : Int)) then (Option.bind (getI a0 (wr (n2 - 1))) fun y5_4 => (Option.bind (getI a0 n2) fun y5_8 => (Option.bind (X.i_gap y5_4 y5_8) fun v5_10 => some (.inl ((wr (n1 + v5_10)), (wr (n2 + 1))))))) else some (.inr n1))) fu (0, 1)) fun n3 => some n3)
def X.slices_Clone_int_int (a0 : (List Int)) : Option (List Int) :=
  appG (eI .i64) ([] : List Int) a0
def X.slices_Index_int_int (a0 : (List Int)) (a1 : Int) : Option Int :=
  (orEl (rangeM (fun (j2 : Int) (x3 : Int) _ => (bif (a1 == x3) then some (.inr (.inl (j2 : Int))) else some (.inl ()))) (fun _ => some (.inr ())) a0 0 ()) (fun r => some r) (fun _ => some (-1)))
def X.slices_Contains_int_int (a0 : (List Int)) (a1 : Int) : Option Bool :=
  (Option.bind (X.slices_Index_int_int a0 a1) fun v1_2 => some (decide (v1_2 ≥ 0)))
def X.slices_Clone_i_Sign_i_Sign (a0 : (List Sign)) : Option (List Sign) :=
  appG nSign ([] : List Sign) a0
def X.i_SmoothestOrder_1 : Nat → (List Sign) → (List Int) → (List Sign) → (List Int) → Int → Option ((List Int) × Int)
  | 0, _, _, _, _, _ => none
  | fu + 1, c0, a0, a1, b0, z0 => (Option.bind (bif ((List.length a0 : Int) == (List.length c0 : Int)) then (bif (List.isEmpty b0) then (Option.bind (X.slices_Clone_int_int a0) fun v1_1 => (Option.bind (X.i_gapsIn fu a1) fun v1_3 => (bif (List.isEmpty v1_1) then none else some (v1_3, v1_1)))) else (Option.bind (X.i_gapsIn fu a1) fun v0_10 => (bif decide (v0_10 < z0) then (Option.bind (X.slices_Clone_int_int a0) fun v1_1 => (Option.bind (X.i_gapsIn fu a1) fun v1_3 => (bif (List.isEmpty v1_1) then none else some (v1_3, v1_1)))) else some (z0, b0)))) else some (z0, b0)) fun ⟨s1, l2⟩ => (Option.bind (rangeM (fun (j20 : Int) (x21 : Sign) ⟨s11, l12⟩ => (Option.bind (X.slices_Contains_int_int a0 (j20 : Int)) fun v5_2 => (bif (!v5_2) then (Option.bind (X.slices_Clone_int_int a0) fun v6_2 => (Option.bind (appG (eI .i64) v6_2 ([(j20 : Int)] : List Int)) fun y6_5 => (Option.bind (X.slices_Clone_i_Sign_i_Sign a1) fun v6_7 => (Option.bind (appG nSign v6_7 ([x21] : List Sign)) fun y6_10 => (Option.bind (X.i_SmoothestOrder_1 fu c0 y6_5 y6_10 l12 s11) fun v6_11 => some (.inl (v6_11.2, v6_11.1))))))) else some (.inl (s11, l12))))) (fun ⟨s11, l12⟩ => some (s11, l12)) c0 0 (s1, l2)) fun ⟨s15, l16⟩ => some (l16, s15)))
def X.i_SmoothestOrder (fu : Nat) (a0 : (List Sign)) : Option ((List Int) × Int × Bool) :=
  (Option.bind (X.i_isMade fu a0) fun v1_1 => (bif (!v1_1) then some (([] : List _), 0, false) else (Option.bind (X.i_SmoothestOrder_1 fu a0 ([] : List _) ([] : List _) ([] : List Int) 0) fun v7_1 => some (v7_1.1, v7_1.2, true))))
def X.s_paList (fu : Nat) (a0 : (List Sign)) : Option Bool :=
  (orEl (rangeM (fun (j2 : Int) (x3 : Sign) _ => (Option.bind (X.s_siGood fu x3) fun v4_1 => (bif (!v4_1) then some (.inr (.inl false)) else some (.inl ())))) (fun _ => some (.inr ())) a0 0 ()) (fun r => some r) (fun _ => some (decide ((List.length a0 : Int) ≤ 20))))
def X.s_cmGood (fu : Nat) (a0 : (List Sign)) : Option Bool :=
  (Option.bind (X.s_l1In (List.length a0 : Int) 2 4) fun v1_2 => (bif v1_2 then (Option.bind (X.s_paList fu a0) fun v1_5 => some v1_5) else some false))
def X.s_l1Has (a0 : (List Int)) (a1 : Int) : Option Bool :=
  (orEl (rangeM (fun (j2 : Int) (x3 : Int) _ => (bif (x3 == a1) then some (.inr (.inl true)) else some (.inl ()))) (fun _ => some (.inr ())) a0 0 ()) (fun r => some r) (fun _ => some false))
def X.s_l1Own (a0 : (List Int)) : Option (List Int) :=
  (Option.bind (appG (eI .i64) ([] : List Int) a0) fun y1_2 => some y1_2)
def X.s_cmOrders : Nat → Int → (List Int) → Option (List (List Int))
  | 0, _, _ => none
  | fu + 1, a0, a1 => (bif ((List.length a1 : Int) == a0) then some [a1] else (Option.bind (loopM (fun ⟨n2, l6⟩ => (bif decide (n2 < a0) then (Option.bind (X.s_l1Has a1 n2) fun v7_2 => (bif (!v7_2) then (Option.bind (X.s_l1Own a1) fun v8_3 => (Option.bind (appG (eI .i64) v8_3 ([n2] : List Int)) fun y8_6 => (Option.bind (X.s_cmOrders fu a0 y8_6) fun v8_7 => (Option.bind (appD l6 v8_7) fun y8_8 => some (.inl ((wr (n2 + 1)), y8_8)))))) else some (.inl ((wr (n2 + 1)), l6)))) else some (.inr l6))) fu (0, ([] : List (List Int)))) fun l10 => some l10))
def X.s_l1Most (a0 : Int) (a1 : Int) : Option Int :=
  (bif decide (a0 > a1) then some a0 else some a1)
def X.s_l1Abs (a0 : Int) : Option Int :=
  (Option.bind (X.s_l1Most a0 (wr (0 - a0))) fun v1_3 => some v1_3)
def X.s_plFar (a0 : Place) (a1 : Place) : Option Int :=
  (Option.bind (X.s_l1Abs (wr (a0.Side - a1.Side))) fun v1_5 => (bif (!(a0.Contact == a1.Contact)) then (bif (!((a0.Region == 0) == (a1.Region == 0))) then some (wr ((wr (v1_5 + 1)) + 4)) else (Option.bind (X.s_l1Abs (wr (a0.Region - a1.Region))) fun v6_6 => some (wr ((wr (v1_5 + 1)) + v6_6)))) else (bif (!((a0.Region == 0) == (a1.Region == 0))) then some (wr (v1_5 + 4)) else (Option.bind (X.s_l1Abs (wr (a0.Region - a1.Region))) fun v6_6 => some (wr (v1_5 + v6_6))))))
def X.s_cmGap (a0 : Sign) (a1 : Sign) : Option Int :=
  (Option.bind (X.s_plFar a0.Main.Place a1.Main.Place) fun v1_6 => (bif (!(a0.Two == a1.Two)) then some (wr (v1_6 + 1)) else some v1_6))
def X.s_SmoothestOrder (fu : Nat) (a0 : (List Sign)) : Option ((List Int) × Int × Bool) :=
  (Option.bind (X.s_cmGood fu a0) fun v1_1 => (bif (!v1_1) then some (([] : List _), 0, false) else (Option.bind (X.s_cmOrders fu (List.length a0 : Int) ([] : List _)) fun v5_2 => (Option.bind (rangeM (fun (j7 : Int) (x8 : (List Int)) ⟨n2, n3⟩ => (Option.bind (loopM (fun ⟨n12, n13⟩ => (bif decide (n13 < (List.length x8 : Int)) then (Option.bind (getI x8 (wr (n13 - 1))) fun y12_5 => (Option.bind (getI a0 y12_5) fun y12_7 => (Option.bind (getI x8 n13) fun y12_12 => (Option.bind (getI a0 y12_12) fun y12_14 => (Option.bind (X.s_cmGap y12_7 y12_14) fun v12_16 => some (.inl ((wr (n12 + v12_16)), (wr (n13 + 1))))))))) else some (.inr (n2, n12)))) fu (0, 1)) fun ⟨n14, n15⟩ => (bif ((List.length (blL v5_2 n14) : Int) == 0) then some (.inl ((j7 : Int), n15)) else (bif decide (n15 < n3) then some (.inl ((j7 : Int), n15)) else some (.inl (n14, n3)))))) (fun ⟨n2, n3⟩ => some (n2, n3)) v5_2 0 ((-1), 0)) fun ⟨n4, n5⟩ => some ((blL v5_2 n4), n5, true)))))
def X.l_szMove (a0 : Move) (a1 : Int) : Option Int :=
  (bif decide ((wr (a1 - (List.length a0.Steps : Int))) < 0) then some (-1) else some (wr (a1 - (List.length a0.Steps : Int))))
def X.l_szHand (a0 : Hand) (a1 : Int) : Option Int :=
  (Option.bind (X.l_szMove a0.Move a1) fun v1_3 => (bif decide (v1_3 < 0) then some (-1) else some v1_3))
def X.l_szSign (a0 : Sign) (a1 : Int) : Option Int :=
  (Option.bind (X.l_szHand a0.Main a1) fun v1_3 => (bif decide (v1_3 < 0) then some (-1) else (Option.bind (X.l_szHand a0.Other v1_3) fun v4_3 => (bif decide (v4_3 < 0) then some (-1) else some v4_3))))
def X.l_szSignS (fu : Nat) (a0 : (List Sign)) (a1 : Int) : Option Int :=
  (bif decide ((wr (a1 - (List.length a0 : Int))) < 0) then some (-1) else (orEl (loopM (fun ⟨n2, n3⟩ => (bif decide (n3 < (List.length a0 : Int)) then (Option.bind (getI a0 n3) fun y7_2 => (Option.bind (X.l_szSign y7_2 n2) fun v7_5 => (bif decide (v7_5 < 0) then some (.inr (.inl (-1))) else some (.inl (v7_5, (wr (n3 + 1))))))) else some (.inr (.inr n2)))) fu ((wr (a1 - (List.length a0 : Int))), 0)) (fun r => some r) (fun n4 => some n4)))
def X.l_toShape (a0 : Shape) : Option Shape :=
  some a0
def X.l_toOrient (a0 : Orient) : Option Orient :=
  some a0
def X.l_toPlace (a0 : Place) : Option Place :=
  some a0
def X.l_toMove (a0 : Move) : Option Move :=
  some a0
def X.l_toHand (a0 : Hand) : Option Hand :=
  (Option.bind (X.l_toShape a0.Shape) fun v2_2 => (Option.bind (X.l_toOrient a0.Orient) fun v3_2 => (Option.bind (X.l_toPlace a0.Place) fun v4_2 => (Option.bind (X.l_toMove a0.Move) fun v5_2 => some (⟨v2_2, v3_2, v4_2, v5_2⟩ : Hand)))))
def X.l_toSign (a0 : Sign) : Option Sign :=
  (Option.bind (X.l_toHand a0.Main) fun v2_2 => (Option.bind (X.l_toHand a0.Other) fun v4_2 => some (⟨v2_2, a0.Two, v4_2⟩ : Sign)))
def X.l_toSignS (fu : Nat) (a0 : (List Sign)) : Option (List Sign) :=
  (Option.bind (mkI nSign zSign (List.length a0 : Int)) fun y1_2 => (Option.bind (loopM (fun ⟨n1, l2⟩ => (bif decide (n1 < (List.length a0 : Int)) then (Option.bind (getI a0 n1) fun y5_4 => (Option.bind (X.l_toSign y5_4) fun v5_6 => (Option.bind (getI l2 n1) fun y5_7 => some (.inl ((wr (n1 + 1)), (List.set l2 (Int.toNat n1) v5_6)))))) else some (.inr l2))) fu (0, y1_2)) fun l5 => some l5))
def X.l_eqIntS (fu : Nat) (a0 : (List Int)) (a1 : (List Int)) : Option Bool :=
  (bif ((List.length a0 : Int) != (List.length a1 : Int)) then some false else (orEl (loopM (fun n2 => (bif decide (n2 < (List.length a0 : Int)) then (Option.bind (getI a0 n2) fun y6_2 => (Option.bind (getI a1 n2) fun y6_6 => (bif (y6_2 != y6_6) then some (.inr (.inl false)) else some (.inl (wr (n2 + 1)))))) else some (.inr (.inr ())))) fu 0) (fun r => some r) (fun _ => some true)))
def X.l_eqShape (a0 : Shape) (a1 : Shape) : Option Bool :=
  (bif (a0.Thumb != a1.Thumb) then some false else (bif (a0.Index != a1.Index) then some false else (bif (a0.Middle != a1.Middle) then some false else (bif (a0.Ring != a1.Ring) then some false else (bif (a0.Little != a1.Little) then some false else (bif (!(a0.Spread == a1.Spread)) then some false else some true))))))
def X.l_eqOrient (a0 : Orient) (a1 : Orient) : Option Bool :=
  (bif (a0.Palm != a1.Palm) then some false else (bif (a0.Fingers != a1.Fingers) then some false else some true))
def X.l_eqPlace (a0 : Place) (a1 : Place) : Option Bool :=
  (bif (a0.Region != a1.Region) then some false else (bif (a0.Side != a1.Side) then some false else (bif (!(a0.Contact == a1.Contact)) then some false else some true)))
def X.l_eqMove (a0 : Move) (a1 : Move) : Option Bool :=
  (bif (!seq a0.Steps a1.Steps) then some false else (bif (a0.Repeat != a1.Repeat) then some false else some true))
def X.l_eqHand (a0 : Hand) (a1 : Hand) : Option Bool :=
  (Option.bind (X.l_eqShape a0.Shape a1.Shape) fun v1_4 => (bif (!v1_4) then some false else (Option.bind (X.l_eqOrient a0.Orient a1.Orient) fun v3_4 => (bif (!v3_4) then some false else (Option.bind (X.l_eqPlace a0.Place a1.Place) fun v5_4 => (bif (!v5_4) then some false else (Option.bind (X.l_eqMove a0.Move a1.Move) fun v7_4 => (bif (!v7_4) then some false else some true))))))))
def X.l_eqSign (a0 : Sign) (a1 : Sign) : Option Bool :=
  (Option.bind (X.l_eqHand a0.Main a1.Main) fun v1_4 => (bif (!v1_4) then some false else (bif (!(a0.Two == a1.Two)) then some false else (Option.bind (X.l_eqHand a0.Other a1.Other) fun v5_4 => (bif (!v5_4) then some false else some true)))))
def X.l_eqSignS (fu : Nat) (a0 : (List Sign)) (a1 : (List Sign)) : Option Bool :=
  (bif ((List.length a0 : Int) != (List.length a1 : Int)) then some false else (orEl (loopM (fun n2 => (bif decide (n2 < (List.length a0 : Int)) then (Option.bind (getI a0 n2) fun y6_2 => (Option.bind (getI a1 n2) fun y6_6 => (Option.bind (X.l_eqSign y6_2 y6_6) fun v6_8 => (bif (!v6_8) then some (.inr (.inl false)) else some (.inl (wr (n2 + 1))))))) else some (.inr (.inr ())))) fu 0) (fun r => some r) (fun _ => some true)))
def X.l_markText (fu : Nat) (a0 : Int) : Option Str :=
  (bif decide (a0 ≤ 0) then some ([109, 48] : Str) else (Option.bind (loopM (fun ⟨n2, t3⟩ => (bif decide (n2 > 0) then (Option.bind (catS (strOf ([(wk .u8 (wr (48 + (Int.tmod n2 10))))] : List Int)) t3) fun y5_7 => some (.inl ((wr (Int.tdiv n2 10)), y5_7))) else some (.inr t3))) fu (a0, ([] : Str))) fun t4 => (Option.bind (catS ([109] : Str) t4) fun y7_1 => some y7_1)))
def X.l_markSignS (fu : Nat) (a0 : (List Sign)) (a1 : Int) : Option (Int × (List Sign)) :=
  (Option.bind (loopM (fun ⟨n1, n2, l3⟩ => (bif decide (n2 < (List.length a0 : Int)) then (Option.bind (getI l3 n2) fun y4_3 => (Option.bind (X.l_markText fu (wr ((wr ((wr ((wr ((wr ((wr ((wr ((wr ((wr ((wr ((wr (n1 + 1)) + 1)) + 1)) + 1)) + 1)) + 1)) + 1)) + 1)) + 1)) + 1)) + 1))) fun v26_3 => (Option.bind (X.l_markText fu (wr ((wr ((wr ((wr ((wr ((wr ((wr ((wr ((wr ((wr ((wr ((wr ((wr ((wr ((wr ((wr ((wr ((wr ((wr ((wr ((wr ((wr ((wr ((wr ((wr (n1 + 1)) + 1)) + 1)) + 1)) + 1)) + 1)) + 1)) + 1)) + 1)) + 1)) + 1)) + 1)) + 1)) + 1)) + 1)) + 1)) + 1)) + 1)) + 1)) + 1)) + 1)) + 1)) + 1)) + 1)) + 1))) fun v54_3 => some (.inl ((wr ((wr ((wr ((wr ((wr ((wr ((wr ((wr ((wr ((wr ((wr ((wr ((wr ((wr ((wr ((wr ((wr ((wr ((wr ((wr ((wr ((wr ((wr ((wr ((wr ((wr ((wr (n1 + 1)) + 1)) + 1)) + 1)) + 1)) + 1)) + 1)) + 1)) + 1)) + 1)) + 1)) + 1)) + 1)) + 1)) + 1)) + 1)) + 1)) + 1)) + 1)) + 1)) + 1)) + 1)) + 1)) + 1)) + 1)) + 1)) + 1)), (wr (n2 + 1)), (List.set l3 (Int.toNat n2) (⟨(⟨(⟨n1, (wr (n1 + 1)), (wr ((wr (n1 + 1)) + 1)), (wr ((wr ((wr (n1 + 1)) + 1)) + 1)), (wr ((wr ((wr ((wr (n1 + 1)) + 1)) + 1)) + 1)), ((Int.tmod (wr ((wr ((wr ((wr ((wr (n1 + 1)) + 1)) + 1)) + 1)) + 1)) 3) == 0)⟩ : Shape), (⟨(wr ((wr ((wr ((wr ((wr ((wr (n1 + 1)) + 1)) + 1)) + 1)) + 1)) + 1)), (wr ((wr ((wr ((wr ((wr ((wr ((wr (n1 + 1)) + 1)) + 1)) + 1)) + 1)) + 1)) + 1))⟩ : Orient), (⟨(wr ((wr ((wr ((wr ((wr ((wr ((wr ((wr (n1 + 1)) + 1)) + 1)) + 1)) + 1)) + 1)) + 1)) + 1)), (wr ((wr ((wr ((wr ((wr ((wr ((wr ((wr ((wr (n1 + 1)) + 1)) + 1)) + 1)) + 1)) + 1)) + 1)) + 1)) + 1)), ((Int.tmod (wr ((wr ((wr ((wr ((wr ((wr ((wr ((wr ((wr ((wr (n1 + 1)) + 1)) + 1)) + 1)) + 1)) + 1)) + 1)) + 1)) + 1)) + 1)) 3) == 0)⟩ : Place), (⟨v26_3, (wr ((wr ((wr ((wr ((wr ((wr ((wr ((wr ((wr ((wr ((wr ((wr (n1 + 1)) + 1)) + 1)) + 1)) + 1)) + 1)) + 1)) + 1)) + 1)) + 1)) + 1)) + 1))⟩ : Move)⟩ : Hand), ((Int.tmod (wr ((wr ((wr ((wr ((wr ((wr ((wr ((wr ((wr ((wr ((wr ((wr ((wr (n1 + 1)) + 1)) + 1)) + 1)) + 1)) + 1)) + 1)) + 1)) + 1)) + 1)) + 1)) + 1)) + 1)) 3) == 0), (⟨(⟨(wr ((wr ((wr ((wr ((wr ((wr ((wr ((wr ((wr ((wr ((wr ((wr ((wr ((wr (n1 + 1)) + 1)) + 1)) + 1)) + 1)) + 1)) + 1)) + 1)) + 1)) + 1)) + 1)) + 1)) + 1)) + 1)), (wr ((wr ((wr ((wr ((wr ((wr ((wr ((wr ((wr ((wr ((wr ((wr ((wr ((wr ((wr (n1 + 1)) + 1)) + 1)) + 1)) + 1)) + 1)) + 1)) + 1)) + 1)) + 1)) + 1)) + 1)) + 1)) + 1)) + 1)), (wr ((wr ((wr ((wr ((wr ((wr ((wr ((wr ((wr ((wr ((wr ((wr ((wr ((wr ((wr ((wr (n1 + 1)) + 1)) + 1)) + 1)) + 1)) + 1)) + 1)) + 1)) + 1)) + 1)) + 1)) + 1)) + 1)) + 1)) + 1)) + 1)), (wr ((wr ((wr ((wr ((wr ((wr ((wr ((wr ((wr ((wr ((wr ((wr ((wr ((wr ((wr ((wr ((wr (n1 + 1)) + 1)) + 1)) + 1)) + 1)) + 1)) + 1)) + 1)) + 1)) + 1)) + 1)) + 1)) + 1)) + 1)) + 1)) + 1)) + 1)), (wr ((wr ((wr ((wr ((wr ((wr ((wr ((wr ((wr ((wr ((wr ((wr ((wr ((wr ((wr ((wr ((wr ((wr (n1 + 1)) + 1)) + 1)) + 1)) + 1)) + 1)) + 1)) + 1)) + 1)) + 1)) + 1)) + 1)) + 1)) + 1)) + 1)) + 1)) + 1)) + 1)), ((Int.tmod (wr ((wr ((wr ((wr ((wr ((wr ((wr ((wr ((wr ((wr ((wr ((wr ((wr ((wr ((wr ((wr ((wr ((wr ((wr (n1 + 1)) + 1)) + 1)) + 1)) + 1)) + 1)) + 1)) + 1)) + 1)) + 1)) + 1)) + 1)) + 1)) + 1)) + 1)) + 1)) + 1)) + 1)) + 1)) 3) == 0)⟩ : Shape), (⟨(wr ((wr ((wr ((wr ((wr ((wr ((wr ((wr ((wr ((wr ((wr ((wr ((wr ((wr ((wr ((wr ((wr ((wr ((wr ((wr (n1 + 1)) + 1)) + 1)) + 1)) + 1)) + 1)) + 1)) + 1)) + 1)) + 1)) + 1)) + 1)) + 1)) + 1)) + 1)) + 1)) + 1)) + 1)) + 1)) + 1)), (wr ((wr ((wr ((wr ((wr ((wr ((wr ((wr ((wr ((wr ((wr ((wr ((wr ((wr ((wr ((wr ((wr ((wr ((wr ((wr ((wr (n1 + 1)) + 1)) + 1)) + 1)) + 1)) + 1)) + 1)) + 1)) + 1)) + 1)) + 1)) + 1)) + 1)) + 1)) + 1)) + 1)) + 1)) + 1)) + 1)) + 1)) + 1))⟩ : Orient), (⟨(wr ((wr ((wr ((wr ((wr ((wr ((wr ((wr ((wr ((wr ((wr ((wr ((wr ((wr ((wr ((wr ((wr ((wr ((wr ((wr ((wr ((wr (n1 + 1)) + 1)) + 1)) + 1)) + 1)) + 1)) + 1)) + 1)) + 1)) + 1)) + 1)) + 1)) + 1)) + 1)) + 1)) + 1)) + 1)) + 1)) + 1)) + 1)) + 1)) + 1)), (wr ((wr ((wr ((wr ((wr ((wr ((wr ((wr ((wr ((wr ((wr ((wr ((wr ((wr ((wr ((wr ((wr ((wr ((wr ((wr ((wr ((wr ((wr (n1 + 1)) + 1)) + 1)) + 1)) + 1)) + 1)) + 1)) + 1)) + 1)) + 1)) + 1)) + 1)) + 1)) + 1)) + 1)) + 1)) + 1)) + 1)) + 1)) + 1)) + 1)) + 1)) + 1)), ((Int.tmod (wr ((wr ((wr ((wr ((wr ((wr ((wr ((wr ((wr ((wr ((wr ((wr ((wr ((wr ((wr ((wr ((wr ((wr ((wr ((wr ((wr ((wr ((wr ((wr (n1 + 1)) + 1)) + 1)) + 1)) + 1)) + 1)) + 1)) + 1)) + 1)) + 1)) + 1)) + 1)) + 1)) + 1)) + 1)) + 1)) + 1)) + 1)) + 1)) + 1)) + 1)) + 1)) + 1)) + 1)) 3) == 0)⟩ : Place), (⟨v54_3, (wr ((wr ((wr ((wr ((wr ((wr ((wr ((wr ((wr ((wr ((wr ((wr ((wr ((wr ((wr ((wr ((wr ((wr ((wr ((wr ((wr ((wr ((wr ((wr ((wr ((wr (n1 + 1)) + 1)) + 1)) + 1)) + 1)) + 1)) + 1)) + 1)) + 1)) + 1)) + 1)) + 1)) + 1)) + 1)) + 1)) + 1)) + 1)) + 1)) + 1)) + 1)) + 1)) + 1)) + 1)) + 1)) + 1)) + 1))⟩ : Move)⟩ : Hand)⟩ : Sign))))))) else some (.inr (n1, l3)))) fu (a1, 0, a0)) fun ⟨n4, l5⟩ => some (n4, l5))
def X.l_markIntS (fu : Nat) (a0 : (List Int)) (a1 : Int) : Option (Int × (List Int)) :=
  (Option.bind (loopM (fun ⟨n1, n2, l3⟩ => (bif decide (n2 < (List.length a0 : Int)) then (Option.bind (getI l3 n2) fun y4_3 => some (.inl ((wr (n1 + 1)), (wr (n2 + 1)), (List.set l3 (Int.toNat n2) n1)))) else some (.inr (n1, l3)))) fu (a1, 0, a0)) fun ⟨n4, l5⟩ => some (n4, l5))
def X.l_heldIntS (fu : Nat) (a0 : (List Int)) (a1 : Int) : Option Int :=
  (orEl (loopM (fun ⟨n1, n2⟩ => (bif decide (n2 < (List.length a0 : Int)) then (Option.bind (getI a0 n2) fun y4_2 => (bif (y4_2 != n1) then some (.inr (.inl (-1))) else some (.inl ((wr (n1 + 1)), (wr (n2 + 1)))))) else some (.inr (.inr n1)))) fu (a1, 0)) (fun r => some r) (fun n3 => some n3))
def X.l_FnExactSmoothestOrder (fu : Nat) (a0 : (List Sign)) : Option Bool :=
  (Option.bind (X.l_szSignS fu a0 1048576) fun v2_2 => (bif decide (v2_2 < 0) then some true else (Option.bind (X.l_toSignS fu a0) fun v5_1 => (Option.bind (X.s_SmoothestOrder fu v5_1) fun v5_2 => (Option.bind (X.l_toSignS fu a0) fun v6_1 => (Option.bind (X.i_SmoothestOrder fu v6_1) fun v7_1 => (Option.bind (X.l_eqIntS fu v7_1.1 v5_2.1) fun v8_2 => (bif (!v8_2) then some false else (bif (v7_1.2.1 != v5_2.2.1) then some false else (bif (!(v7_1.2.2 == v5_2.2.2)) then some false else (Option.bind (X.l_toSignS fu a0) fun v10_2 => (Option.bind (X.l_eqSignS fu v6_1 v10_2) fun v10_3 => (bif (!v10_3) then some false else (Option.bind (X.l_markSignS fu v6_1 1) fun v13_2 => (bif decide (v13_2.1 < 0) then some false else (Option.bind (X.l_eqIntS fu v7_1.1 v5_2.1) fun v14_5 => (bif (!v14_5) then some false else (Option.bind (X.l_markIntS fu v7_1.1 1) fun v17_2 => (Option.bind (X.l_heldIntS fu v17_2.2 1) fun v19_2 => (bif decide (v19_2 < 0) then some false else (bif (v19_2 != v17_2.1) then some false else (Option.bind (X.l_toSignS fu a0) fun v24_1 => (Option.bind (X.i_SmoothestOrder fu v24_1) fun v24_2 => (Option.bind (X.l_eqIntS fu v24_2.1 v5_2.1) fun v25_2 => (bif (!v25_2) then some false else (bif (v24_2.2.1 != v5_2.2.1) then some false else (bif (!(v24_2.2.2 == v5_2.2.2)) then some false else (Option.bind (X.l_heldIntS fu v17_2.2 1) fun v28_2 => (bif decide (v28_2 < 0) then some false else (bif (v28_2 != v17_2.1) then some false else some true))))))))))))))))))))))))))))))
end Go.Proofs.XC
