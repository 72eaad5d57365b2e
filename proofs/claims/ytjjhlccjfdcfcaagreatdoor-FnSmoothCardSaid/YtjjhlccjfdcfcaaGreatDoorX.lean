/- What each function of the given program reckons, as plain Lean functions (none: it would panic there, or a bound is passed). By AI agents; no person has read it. -/
import Derived.Test.YtjjhlccjfdcfcaaGreatDoorCore2
import Derived.Lib.Split
import Derived.Lib.AtoiAll
import Derived.Lib.Join
import Derived.Lib.ItoaNum
import Derived.Lib.Repeat
import Derived.Lib.Bytealg
set_option linter.unusedVariables false
set_option linter.unusedSimpArgs false
set_option maxRecDepth 100000
set_option maxHeartbeats 40000000
namespace Go.Proofs.XC
open Go Go.RowKit
structure Shape where
  Thumb : Int
  Index : Int
  Middle : Int
  Ring : Int
  Little : Int
  Spread : Bool
deriving DecidableEq
def eShape (s : Shape) : List Value := [.int .i64 s.Thumb, .int .i64 s.Index, .int .i64 s.Middle, .int .i64 s.Ring, .int .i64 s.Little, .bool s.Spread]
def zShape : Shape := ⟨0, 0, 0, 0, 0, false⟩
def qShape (a b : Shape) : Bool := ((a.Thumb == b.Thumb) && ((a.Index == b.Index) && ((a.Middle == b.Middle) && ((a.Ring == b.Ring) && ((a.Little == b.Little) && ((a.Spread == b.Spread) && true))))))
def nShape : Enc Shape := ⟨eShape, 6, 48, fun _ => rfl, fun x => List.all_eq_true.1 (rfl : (eShape x).all (·.oneCell') = true), by decide⟩
structure Orient where
  Palm : Int
  Fingers : Int
deriving DecidableEq
def eOrient (s : Orient) : List Value := [.int .i64 s.Palm, .int .i64 s.Fingers]
def zOrient : Orient := ⟨0, 0⟩
def qOrient (a b : Orient) : Bool := ((a.Palm == b.Palm) && ((a.Fingers == b.Fingers) && true))
def nOrient : Enc Orient := ⟨eOrient, 2, 16, fun _ => rfl, fun x => List.all_eq_true.1 (rfl : (eOrient x).all (·.oneCell') = true), by decide⟩
structure Place where
  Region : Int
  Side : Int
  Contact : Bool
deriving DecidableEq
def ePlace (s : Place) : List Value := [.int .i64 s.Region, .int .i64 s.Side, .bool s.Contact]
def zPlace : Place := ⟨0, 0, false⟩
def qPlace (a b : Place) : Bool := ((a.Region == b.Region) && ((a.Side == b.Side) && ((a.Contact == b.Contact) && true)))
def nPlace : Enc Place := ⟨ePlace, 3, 24, fun _ => rfl, fun x => List.all_eq_true.1 (rfl : (ePlace x).all (·.oneCell') = true), by decide⟩
structure Move where
  Steps : Str
  Repeat : Int
deriving DecidableEq
def eMove (s : Move) : List Value := [.string (bs s.Steps), .int .i64 s.Repeat]
def zMove : Move := ⟨([] : Str), 0⟩
def qMove (a b : Move) : Bool := ((seq a.Steps b.Steps) && ((a.Repeat == b.Repeat) && true))
def nMove : Enc Move := ⟨eMove, 2, 24, fun _ => rfl, fun x => List.all_eq_true.1 (rfl : (eMove x).all (·.oneCell') = true), by decide⟩
structure Hand where
  Shape : Shape
  Orient : Orient
  Place : Place
  Move : Move
deriving DecidableEq
def eHand (s : Hand) : List Value := eShape s.Shape ++ (eOrient s.Orient ++ (ePlace s.Place ++ (eMove s.Move)))
def zHand : Hand := ⟨zShape, zOrient, zPlace, zMove⟩
def qHand (a b : Hand) : Bool := ((qShape a.Shape b.Shape) && ((qOrient a.Orient b.Orient) && ((qPlace a.Place b.Place) && ((qMove a.Move b.Move) && true))))
def nHand : Enc Hand := ⟨eHand, 13, 112, fun _ => rfl, fun x => List.all_eq_true.1 (rfl : (eHand x).all (·.oneCell') = true), by decide⟩
structure Sign where
  Main : Hand
  Two : Bool
  Other : Hand
deriving DecidableEq
def eSign (s : Sign) : List Value := eHand s.Main ++ ([.bool s.Two] ++ (eHand s.Other))
def zSign : Sign := ⟨zHand, false, zHand⟩
def qSign (a b : Sign) : Bool := ((qHand a.Main b.Main) && ((a.Two == b.Two) && ((qHand a.Other b.Other) && true)))
def nSign : Enc Sign := ⟨eSign, 27, 232, fun _ => rfl, fun x => List.all_eq_true.1 (rfl : (eSign x).all (·.oneCell') = true), by decide⟩
def okShape (s : Shape) : Prop := okI s.Thumb ∧ okI s.Index ∧ okI s.Middle ∧ okI s.Ring ∧ okI s.Little ∧ okB s.Spread
def okOrient (s : Orient) : Prop := okI s.Palm ∧ okI s.Fingers
def okPlace (s : Place) : Prop := okI s.Region ∧ okI s.Side ∧ okB s.Contact
def okMove (s : Move) : Prop := okS s.Steps ∧ okI s.Repeat
def okHand (s : Hand) : Prop := okShape s.Shape ∧ okOrient s.Orient ∧ okPlace s.Place ∧ okMove s.Move
def okSign (s : Sign) : Prop := okHand s.Main ∧ okB s.Two ∧ okHand s.Other
def X.s_l1In (a0 : Int) (a1 : Int) (a2 : Int) : Option Bool :=
  (bif decide (a0 ≥ a1) then some (decide (a0 ≤ a2)) else some false)
def X.s_shFingers (a0 : Shape) : Option (List Int) :=
  some ([a0.Index, a0.Middle, a0.Ring, a0.Little] : List Int)
def X.s_l1All (a0 : (List Int)) (a1 : Int) (a2 : Int) : Option Bool :=
  (orEl (rangeM (fun (j2 : Int) (x3 : Int) _ => (Option.bind (X.s_l1In x3 a1 a2) fun v4_3 => (bif (!v4_3) then some (.inr (.inl false)) else some (.inl ())))) (fun _ => some (.inr ())) a0 0 ()) (fun r => some r) (fun _ => some true))
def X.s_shWide (fu : Nat) (a0 : Shape) : Option Bool :=
  (Option.bind (X.s_shFingers a0) fun v1_1 => (orEl (loopM (fun n1 => (bif decide (n1 < 4) then (Option.bind (getI v1_1 (wr (n1 - 1))) fun y5_3 => (bif (y5_3 == 0) then (Option.bind (getI v1_1 n1) fun y5_9 => (bif (y5_9 == 0) then some (.inr (.inl true)) else some (.inl (wr (n1 + 1))))) else some (.inl (wr (n1 + 1))))) else some (.inr (.inr ())))) fu 1) (fun r => some r) (fun _ => some false)))
def X.s_shGood (fu : Nat) (a0 : Shape) : Option Bool :=
  (Option.bind (X.s_l1In a0.Thumb 0 2) fun v1_2 => (bif v1_2 then (Option.bind (X.s_shFingers a0) fun v1_5 => (Option.bind (X.s_l1All v1_5 0 2) fun v1_6 => (bif v1_6 then (bif (!a0.Spread) then some true else (Option.bind (X.s_shWide fu a0) fun v1_14 => some v1_14)) else some false))) else some false))
def X.s_shParse (fu : Nat) (a0 : Str) : Option (Shape × Bool) :=
  (Option.bind (X.s_l1In (List.length a0 : Int) 5 6) fun v1_2 => (bif (!v1_2) then some (zShape, false) else (bif ((List.length a0 : Int) == 6) then (Option.bind (getB a0 5) fun y1_10 => (bif (y1_10 != 115) then some (zShape, false) else (Option.bind (loopM (fun ⟨n4, l5⟩ => (bif decide (n4 < 5) then (Option.bind (getB a0 n4) fun y7_3 => (Option.bind (appG (eI .i64) l5 ([(wr ((wr y7_3) - 48))] : List Int)) fun y7_7 => some (.inl ((wr (n4 + 1)), y7_7)))) else some (.inr l5))) fu (0, ([] : List Int))) fun l8 => (Option.bind (getI l8 0) fun y8_1 => (Option.bind (getI l8 1) fun y8_4 => (Option.bind (getI l8 2) fun y8_7 => (Option.bind (getI l8 3) fun y8_10 => (Option.bind (getI l8 4) fun y8_13 => (Option.bind (X.s_shGood fu (⟨y8_1, y8_4, y8_7, y8_10, y8_13, ((List.length a0 : Int) == 6)⟩ : Shape)) fun v9_1 => (bif (!v9_1) then some (zShape, false) else some ((⟨y8_1, y8_4, y8_7, y8_10, y8_13, ((List.length a0 : Int) == 6)⟩ : Shape), true))))))))))) else (Option.bind (loopM (fun ⟨n14, l15⟩ => (bif decide (n14 < 5) then (Option.bind (getB a0 n14) fun y7_3 => (Option.bind (appG (eI .i64) l15 ([(wr ((wr y7_3) - 48))] : List Int)) fun y7_7 => some (.inl ((wr (n14 + 1)), y7_7)))) else some (.inr l15))) fu (0, ([] : List Int))) fun l18 => (Option.bind (getI l18 0) fun y8_1 => (Option.bind (getI l18 1) fun y8_4 => (Option.bind (getI l18 2) fun y8_7 => (Option.bind (getI l18 3) fun y8_10 => (Option.bind (getI l18 4) fun y8_13 => (Option.bind (X.s_shGood fu (⟨y8_1, y8_4, y8_7, y8_10, y8_13, ((List.length a0 : Int) == 6)⟩ : Shape)) fun v9_1 => (bif (!v9_1) then some (zShape, false) else some ((⟨y8_1, y8_4, y8_7, y8_10, y8_13, ((List.length a0 : Int) == 6)⟩ : Shape), true))))))))))))
def X.s_orDir (a0 : Int) : Option Bool :=
  (Option.bind (X.s_l1In a0 0 5) fun v1_1 => some v1_1)
def X.s_orOpposite (a0 : Int) : Option Int :=
  (bif ((Int.tmod a0 2) == 0) then some (wr (a0 + 1)) else some (wr (a0 - 1)))
def X.s_orGood (a0 : Orient) : Option Bool :=
  (Option.bind (X.s_orDir a0.Palm) fun v1_2 => (bif v1_2 then (Option.bind (X.s_orDir a0.Fingers) fun v1_6 => (bif v1_6 then (bif (a0.Palm != a0.Fingers) then (Option.bind (X.s_orOpposite a0.Fingers) fun v1_20 => some (a0.Palm != v1_20)) else some false) else some false)) else some false))
def X.s_plNames : Option (List Str) :=
  some ([([115, 112, 97, 99, 101] : Str), ([104, 101, 97, 100] : Str), ([101, 121, 101] : Str), ([99, 104, 101, 101, 107] : Str), ([109, 111, 117, 116, 104] : Str), ([99, 104, 105, 110] : Str), ([110, 101, 99, 107] : Str), ([99, 104, 101, 115, 116] : Str), ([119, 97, 105, 115, 116] : Str), ([104, 105, 112] : Str)] : List Str)
def X.s_plText (a0 : Place) : Option Str :=
  (Option.bind X.s_plNames fun v1_0 => (Option.bind (getI v1_0 a0.Region) fun y1_3 => (bif (a0.Side == (-1)) then (Option.bind (catS y1_3 ([60] : Str)) fun y4_1 => (bif a0.Contact then (Option.bind (catS y4_1 ([42] : Str)) fun y8_1 => some y8_1) else some y4_1)) else (bif (a0.Side == 1) then (Option.bind (catS y1_3 ([62] : Str)) fun y6_1 => (bif a0.Contact then (Option.bind (catS y6_1 ([42] : Str)) fun y8_1 => some y8_1) else some y6_1)) else (bif a0.Contact then (Option.bind (catS y1_3 ([42] : Str)) fun y8_1 => some y8_1) else some y1_3)))))
def X.s_plGood (a0 : Place) : Option Bool :=
  (Option.bind (X.s_l1In a0.Region 0 9) fun v1_2 => (bif v1_2 then (Option.bind (X.s_l1In a0.Side (-1) 1) fun v1_6 => (bif v1_6 then (bif decide (a0.Region > 0) then some true else some (!a0.Contact)) else some false)) else some false))
def X.s_plAll (fu : Nat) : Option (List Place) :=
  (Option.bind (loopM (fun ⟨n1, l2⟩ => (bif decide (n1 < 10) then (Option.bind (loopM (fun ⟨n10, l11⟩ => (bif decide (n10 ≤ 1) then (Option.bind (rangeM (fun (j26 : Int) (x27 : Bool) l19 => (Option.bind (X.s_plGood (⟨n1, n10, x27⟩ : Place)) fun v12_1 => (bif v12_1 then (Option.bind (appG nPlace l19 ([(⟨n1, n10, x27⟩ : Place)] : List Place)) fun y13_3 => some (.inl y13_3)) else some (.inl l19)))) (fun l19 => some l19) ([false, true] : List Bool) 0 l11) fun l22 => some (.inl ((wr (n10 + 1)), l22))) else some (.inr l11))) fu ((-1), l2)) fun l14 => some (.inl ((wr (n1 + 1)), l14))) else some (.inr l2))) fu (0, ([] : List Place))) fun l5 => some l5)
def X.s_l1Num : Nat → Int → Option Str
  | 0, _ => none
  | fu + 1, a0 => (bif decide (a0 < 10) then some (strOf ([(wk .u8 (wr (48 + a0)))] : List Int)) else (Option.bind (X.s_l1Num fu (wr (Int.tdiv a0 10))) fun v3_2 => (Option.bind (catS v3_2 (strOf ([(wk .u8 (wr (48 + (Int.tmod a0 10))))] : List Int))) fun y3_9 => some y3_9)))
def X.s_mvText (fu : Nat) (a0 : Move) : Option Str :=
  (bif (seq a0.Steps ([] : Str)) then some ([45] : Str) else (bif decide (a0.Repeat > 1) then (Option.bind (catS a0.Steps ([42] : Str)) fun y4_2 => (Option.bind (X.s_l1Num fu a0.Repeat) fun v4_5 => (Option.bind (catS y4_2 v4_5) fun y4_6 => some y4_6))) else some a0.Steps))
def X.s_mvLetters : Option Str :=
  some ([117, 100, 108, 114, 102, 98] : Str)
def X.s_mvIndex (fu : Nat) (a0 : Int) : Option Int :=
  (orEl (loopM (fun n1 => (Option.bind X.s_mvLetters fun v2_1 => (bif decide (n1 < (List.length v2_1 : Int)) then (Option.bind X.s_mvLetters fun v4_0 => (Option.bind (getB v4_0 n1) fun y4_2 => (bif (y4_2 == a0) then some (.inr (.inl n1)) else some (.inl (wr (n1 + 1)))))) else some (.inr (.inr ()))))) fu 0) (fun r => some r) (fun _ => some (-1)))
def X.s_mvSteps (fu : Nat) (a0 : Str) : Option Bool :=
  (orEl (loopM (fun n1 => (bif decide (n1 < (List.length a0 : Int)) then (Option.bind (getB a0 n1) fun y4_2 => (Option.bind (X.s_mvIndex fu y4_2) fun v4_3 => (bif decide (v4_3 < 0) then some (.inr (.inl false)) else some (.inl (wr (n1 + 1)))))) else some (.inr (.inr ())))) fu 0) (fun r => some r) (fun _ => some true))
def X.s_mvGood (fu : Nat) (a0 : Move) : Option Bool :=
  (bif decide ((List.length a0.Steps : Int) ≤ 6) then (Option.bind (X.s_mvSteps fu a0.Steps) fun v1_7 => (bif v1_7 then (Option.bind (X.s_l1In a0.Repeat 1 3) fun v1_12 => (bif v1_12 then (bif (!seq a0.Steps ([] : Str)) then some true else some (a0.Repeat == 1)) else some false)) else some false)) else some false)
def X.s_mvTimes (fu : Nat) (a0 : Str) (a1 : Int) : Option Str :=
  (Option.bind (loopM (fun ⟨n1, t2⟩ => (bif decide (n1 > 0) then (Option.bind (catS t2 a0) fun y4_2 => some (.inl ((wr (n1 - 1)), y4_2))) else some (.inr t2))) fu (a1, ([] : Str))) fun t3 => some t3)
def X.s_mvAll (fu : Nat) (a0 : Move) : Option Str :=
  (Option.bind (X.s_mvTimes fu a0.Steps a0.Repeat) fun v1_4 => some v1_4)
def X.s_siPlain (fu : Nat) : Option (List Shape) :=
  (Option.bind (rangeM (fun (j8 : Int) (x9 : Str) l1 => (Option.bind (X.s_shParse fu x9) fun v5_1 => (Option.bind (appG nShape l1 ([v5_1.1] : List Shape)) fun y6_3 => some (.inl y6_3)))) (fun l1 => some l1) ([([48, 48, 48, 48, 48] : Str), ([48, 48, 48, 48, 48, 115] : Str), ([50, 50, 50, 50, 50] : Str), ([49, 48, 48, 48, 48] : Str), ([49, 48, 50, 50, 50] : Str), ([48, 48, 50, 50, 50] : Str)] : List Str) 0 ([] : List Shape)) fun l4 => some l4)
def X.s_orSwap (a0 : Int) : Option Int :=
  (bif (a0 == 2) then (Option.bind (X.s_orOpposite a0) fun v2_1 => some v2_1) else (bif (a0 == 3) then (Option.bind (X.s_orOpposite a0) fun v2_1 => some v2_1) else some a0))
def X.s_orMirror (a0 : Orient) : Option Orient :=
  (Option.bind (X.s_orSwap a0.Palm) fun v1_2 => (Option.bind (X.s_orSwap a0.Fingers) fun v1_5 => some (⟨v1_2, v1_5⟩ : Orient)))
def X.s_mvMirror (fu : Nat) (a0 : Move) : Option Move :=
  (Option.bind (loopM (fun ⟨t1, n2⟩ => (bif decide (n2 < (List.length a0.Steps : Int)) then (Option.bind (getB a0.Steps n2) fun y5_3 => (bif (y5_3 == 108) then (Option.bind (catS t1 ([114] : Str)) fun y8_1 => some (.inl (y8_1, (wr (n2 + 1))))) else (bif (y5_3 == 114) then (Option.bind (catS t1 ([108] : Str)) fun y10_1 => some (.inl (y10_1, (wr (n2 + 1))))) else (Option.bind (cutS a0.Steps n2 (wr (n2 + 1))) fun y6_6 => (Option.bind (catS t1 y6_6) fun y6_7 => some (.inl (y6_7, (wr (n2 + 1))))))))) else some (.inr t1))) fu (([] : Str), 0)) fun t3 => some ({ a0 with Steps := t3 }))
def X.s_siBroken (fu : Nat) (a0 : Hand) (a1 : Hand) : Option Int :=
  (bif (seq a1.Move.Steps ([] : Str)) then (bif (qShape a0.Shape a1.Shape) then some 0 else (Option.bind (X.s_siPlain fu) fun v4_0 => (orEl (rangeM (fun (j4 : Int) (x5 : Shape) _ => (bif (qShape x5 a1.Shape) then some (.inr (.inl 0)) else some (.inl ()))) (fun _ => some (.inr ())) v4_0 0 ()) (fun r => some r) (fun _ => some 4)))) else (bif (seq a0.Move.Steps ([] : Str)) then some 3 else (bif (!qShape a0.Shape a1.Shape) then some 1 else (bif (!qOrient a0.Orient a1.Orient) then (Option.bind (X.s_orMirror a1.Orient) fun v15_10 => (bif (!qOrient a0.Orient v15_10) then some 2 else (Option.bind (X.s_mvAll fu a0.Move) fun v17_2 => (Option.bind (X.s_mvAll fu a1.Move) fun v17_5 => (bif (!seq v17_2 v17_5) then (Option.bind (X.s_mvMirror fu a0.Move) fun v17_10 => (Option.bind (X.s_mvAll fu v17_10) fun v17_11 => (Option.bind (X.s_mvAll fu a1.Move) fun v17_14 => (bif (!seq v17_11 v17_14) then some 3 else some 0)))) else some 0))))) else (Option.bind (X.s_mvAll fu a0.Move) fun v17_2 => (Option.bind (X.s_mvAll fu a1.Move) fun v17_5 => (bif (!seq v17_2 v17_5) then (Option.bind (X.s_mvMirror fu a0.Move) fun v17_10 => (Option.bind (X.s_mvAll fu v17_10) fun v17_11 => (Option.bind (X.s_mvAll fu a1.Move) fun v17_14 => (bif (!seq v17_11 v17_14) then some 3 else some 0)))) else some 0)))))))
def X.strconv_Itoa (a0 : Int) : Option Str := if 0 ≤ a0 ∧ a0 < 100 then some (Lib.decDigits a0.toNat) else none
def X.i_Shape_bends (a0 : Shape) : Option (List Int) :=
  some ([a0.Index, a0.Middle, a0.Ring, a0.Little] : List Int)
def X.i_Shape_text (a0 : Shape) : Option Str :=
  (Option.bind (X.strconv_Itoa a0.Thumb) fun v1_2 => (Option.bind (X.i_Shape_bends a0) fun v2_1 => (Option.bind (rangeM (fun (j4 : Int) (x5 : Int) t1 => (Option.bind (X.strconv_Itoa x5) fun v5_2 => (Option.bind (catS t1 v5_2) fun y5_3 => some (.inl y5_3)))) (fun t1 => some t1) v2_1 0 v1_2) fun t2 => (bif a0.Spread then (Option.bind (catS t2 ([115] : Str)) fun y8_1 => some y8_1) else some t2))))
def X.slices_IndexFunc_int_int (a0 : (List Int)) (a1 : (Int → Option Bool)) : Option Int :=
  (orEl (rangeM (fun (j2 : Int) (x3 : Int) _ => (Option.bind (a1 x3) fun v4_5 => (bif v4_5 then some (.inr (.inl (j2 : Int))) else some (.inl ())))) (fun _ => some (.inr ())) a0 0 ()) (fun r => some r) (fun _ => some (-1)))
def X.slices_ContainsFunc_int_int (a0 : (List Int)) (a1 : (Int → Option Bool)) : Option Bool :=
  (Option.bind (X.slices_IndexFunc_int_int a0 a1) fun v1_2 => some (decide (v1_2 ≥ 0)))
def X.i_within (a0 : Int) (a1 : Int) (a2 : Int) : Option Bool :=
  (bif decide (a0 ≥ a1) then some (decide (a0 ≤ a2)) else some false)
def X.i_allWithin_1 (a1 : Int) (a2 : Int) (a0 : Int) : Option Bool :=
  (Option.bind (X.i_within a0 a1 a2) fun v1_3 => some (!v1_3))
def X.i_allWithin (a0 : (List Int)) (a1 : Int) (a2 : Int) : Option Bool :=
  (Option.bind (X.slices_ContainsFunc_int_int a0 (X.i_allWithin_1 a1 a2)) fun v1_2 => some (!v1_2))
def X.i_Shape_maySpread (a0 : Shape) : Option Bool :=
  (bif (a0.Middle == 0) then (bif (a0.Index == 0) then some true else (bif (a0.Ring == 0) then some true else some false)) else (bif (a0.Ring == 0) then some (a0.Little == 0) else some false))
def X.i_IsShape (a0 : Shape) : Option Bool :=
  (Option.bind (Option.bind (X.i_Shape_bends a0) fun v1_4 => (Option.bind (appG (eI .i64) ([a0.Thumb] : List Int) v1_4) fun y1_5 => (Option.bind (X.i_allWithin y1_5 0 2) fun v1_6 => some ((!v1_6), y1_5, v1_4)))) fun ⟨b1, l2, l5⟩ => (bif b1 then some false else (bif (!a0.Spread) then some true else (Option.bind (X.i_Shape_maySpread a0) fun v3_5 => some v3_5))))
def X.i_Shape_with (a0 : Shape) (a1 : Int) (a2 : Int) : Option Shape :=
  (bif (a1 == 0) then (bif a0.Spread then (Option.bind (X.i_Shape_maySpread ({ a0 with Thumb := a2 })) fun v11_4 => some ({ a0 with Thumb := a2, Spread := v11_4 })) else some ({ a0 with Thumb := a2, Spread := false })) else (bif (a1 == 1) then (bif a0.Spread then (Option.bind (X.i_Shape_maySpread ({ a0 with Index := a2 })) fun v11_4 => some ({ a0 with Index := a2, Spread := v11_4 })) else some ({ a0 with Index := a2, Spread := false })) else (bif (a1 == 2) then (bif a0.Spread then (Option.bind (X.i_Shape_maySpread ({ a0 with Middle := a2 })) fun v11_4 => some ({ a0 with Middle := a2, Spread := v11_4 })) else some ({ a0 with Middle := a2, Spread := false })) else (bif (a1 == 3) then (bif a0.Spread then (Option.bind (X.i_Shape_maySpread ({ a0 with Ring := a2 })) fun v11_4 => some ({ a0 with Ring := a2, Spread := v11_4 })) else some ({ a0 with Ring := a2, Spread := false })) else (bif a0.Spread then (Option.bind (X.i_Shape_maySpread ({ a0 with Little := a2 })) fun v11_4 => some ({ a0 with Little := a2, Spread := v11_4 })) else some ({ a0 with Little := a2, Spread := false }))))))
def X.i_ParseShape (fu : Nat) (a0 : Str) : Option (Shape × Bool) :=
  (Option.bind (X.i_within (List.length a0 : Int) 5 6) fun v1_2 => (bif (!v1_2) then some (zShape, false) else (Option.bind (loopM (fun ⟨n2, s3⟩ => (bif decide (n2 < 5) then (Option.bind (getB a0 n2) fun y7_4 => (Option.bind (X.i_Shape_with s3 n2 (wr ((wr y7_4) - 48))) fun v7_7 => some (.inl ((wr (n2 + 1)), v7_7)))) else some (.inr s3))) fu (0, zShape)) fun s4 => (Option.bind (X.i_IsShape ({ s4 with Spread := ((List.length a0 : Int) == 6) })) fun v10_1 => (bif (!v10_1) then some (zShape, false) else (Option.bind (X.i_Shape_text ({ s4 with Spread := ((List.length a0 : Int) == 6) })) fun v10_5 => (bif (!seq v10_5 a0) then some (zShape, false) else some ({ s4 with Spread := ((List.length a0 : Int) == 6) }, true))))))))
def X.i_IsOrient (a0 : Orient) : Option Bool :=
  (Option.bind (X.i_within a0.Palm 0 5) fun v1_2 => (bif v1_2 then (Option.bind (X.i_within a0.Fingers 0 5) fun v1_6 => (bif v1_6 then some ((wr (Int.tdiv a0.Palm 2)) != (wr (Int.tdiv a0.Fingers 2))) else some false)) else some false))
def X.strings_IndexByte (a0 : Str) (a1 : Int) : Option Int := some (Lib.indexByte a0 a1.toNat.toUInt8)
def X.i_Place_text (a0 : Place) : Option Str :=
  (Option.bind (getI ([([115, 112, 97, 99, 101] : Str), ([104, 101, 97, 100] : Str), ([101, 121, 101] : Str), ([99, 104, 101, 101, 107] : Str), ([109, 111, 117, 116, 104] : Str), ([99, 104, 105, 110] : Str), ([110, 101, 99, 107] : Str), ([99, 104, 101, 115, 116] : Str), ([119, 97, 105, 115, 116] : Str), ([104, 105, 112] : Str)] : List Str) a0.Region) fun y2_2 => (Option.bind (getI ([([60] : Str), ([] : Str), ([62] : Str)] : List Str) (wr (a0.Side + 1))) fun y2_8 => (Option.bind (catS y2_2 y2_8) fun y2_9 => (bif a0.Contact then (Option.bind (catS y2_9 ([42] : Str)) fun y4_1 => some y4_1) else some y2_9))))
def X.i_IsPlace (a0 : Place) : Option Bool :=
  (Option.bind (X.i_within a0.Region 0 9) fun v1_2 => (bif v1_2 then (Option.bind (X.i_within a0.Side (-1) 1) fun v1_6 => (bif v1_6 then (bif a0.Contact then some (!(a0.Region == 0)) else some true) else some false)) else some false))
def X.i_Move_text (a0 : Move) : Option Str :=
  (bif (seq a0.Steps ([] : Str)) then some ([45] : Str) else (bif (a0.Repeat == 1) then some a0.Steps else (Option.bind (catS a0.Steps ([42] : Str)) fun y5_2 => (Option.bind (X.strconv_Itoa a0.Repeat) fun v5_5 => (Option.bind (catS y5_2 v5_5) fun y5_6 => some y5_6)))))
def X.i_hasOnly (a0 : Str) (a1 : Str) : Option Bool :=
  (orEl (rangeN (fun (j2 : Int) _ => (Option.bind (getB a0 (j2 : Int)) fun y4_3 => (Option.bind (X.strings_IndexByte a1 y4_3) fun v4_4 => (bif decide (v4_4 < 0) then some (.inr (.inl false)) else some (.inl ()))))) (fun _ => some (.inr ())) (List.length a0 : Int) ()) (fun r => some r) (fun _ => some true))
def X.i_IsMove (a0 : Move) : Option Bool :=
  (bif decide ((List.length a0.Steps : Int) ≤ 6) then (Option.bind (X.i_hasOnly a0.Steps ([117, 100, 108, 114, 102, 98] : Str)) fun v1_7 => (bif v1_7 then (Option.bind (X.i_within a0.Repeat 1 3) fun v1_12 => (bif v1_12 then (bif (!seq a0.Steps ([] : Str)) then some true else some (a0.Repeat == 1)) else some false)) else some false)) else some false)
def X.strings_Repeat (a0 : Str) (a1 : Int) : Option Str := if 0 ≤ a1 ∧ a1 ≤ 9223372036854775807 ∧ a0.length * a1.toNat ≤ 140737488355328 then some (Lib.repeatL a0 a1.toNat) else none
def X.i_Move_all (a0 : Move) : Option Str :=
  (Option.bind (X.strings_Repeat a0.Steps a0.Repeat) fun v1_4 => some v1_4)
def X.i_Hand_moves (a0 : Hand) : Option Bool :=
  some (!seq a0.Move.Steps ([] : Str))
def X.slices_Index_i_Shape_i_Shape (a0 : (List Shape)) (a1 : Shape) : Option Int :=
  (orEl (rangeM (fun (j2 : Int) (x3 : Shape) _ => (bif (qShape a1 x3) then some (.inr (.inl (j2 : Int))) else some (.inl ()))) (fun _ => some (.inr ())) a0 0 ()) (fun r => some r) (fun _ => some (-1)))
def X.slices_Contains_i_Shape_i_Shape (a0 : (List Shape)) (a1 : Shape) : Option Bool :=
  (Option.bind (X.slices_Index_i_Shape_i_Shape a0 a1) fun v1_2 => some (decide (v1_2 ≥ 0)))
def X.i_PlainShapes (fu : Nat) : Option (List Shape) :=
  (Option.bind (rangeM (fun (j8 : Int) (x9 : Str) l1 => (Option.bind (X.i_ParseShape fu x9) fun v5_1 => (Option.bind (appG nShape l1 ([v5_1.1] : List Shape)) fun y6_3 => some (.inl y6_3)))) (fun l1 => some l1) ([([48, 48, 48, 48, 48] : Str), ([48, 48, 48, 48, 48, 115] : Str), ([50, 50, 50, 50, 50] : Str), ([49, 48, 48, 48, 48] : Str), ([49, 48, 50, 50, 50] : Str), ([48, 48, 50, 50, 50] : Str)] : List Str) 0 ([] : List Shape)) fun l4 => some l4)
def X.i_Orient_mirrored_1 (a0 : Int) : Option Int :=
  (bif (a0 == 2) then some (wr (Int.ofNat (BitVec.ofInt (IntKind.bits .i64) a0 ^^^ BitVec.ofInt (IntKind.bits .i64) 1).toNat)) else (bif (a0 == 3) then some (wr (Int.ofNat (BitVec.ofInt (IntKind.bits .i64) a0 ^^^ BitVec.ofInt (IntKind.bits .i64) 1).toNat)) else some a0))
def X.i_Orient_mirrored (a0 : Orient) : Option Orient :=
  (Option.bind (X.i_Orient_mirrored_1 a0.Palm) fun v2_3 => (Option.bind (X.i_Orient_mirrored_1 a0.Fingers) fun v2_7 => some (⟨v2_3, v2_7⟩ : Orient)))
def X.i_Move_mirrored (a0 : Move) : Option Move := if a0.Steps.length ≤ 9223372036854775807 then some ⟨a0.Steps.map swapLR, a0.Repeat⟩ else none
def X.i_keepRules (fu : Nat) (a0 : Hand) (a1 : Hand) : Option Bool :=
  (Option.bind (X.i_Hand_moves a1) fun v1_1 => (bif (!v1_1) then (bif (qShape a1.Shape a0.Shape) then some true else (Option.bind (X.i_PlainShapes fu) fun v2_6 => (Option.bind (X.slices_Contains_i_Shape_i_Shape v2_6 a1.Shape) fun v2_9 => some v2_9))) else (bif (qOrient a1.Orient a0.Orient) then (Option.bind (X.i_Move_all a1.Move) fun v4_2 => (Option.bind (X.i_Move_all a0.Move) fun v4_5 => (bif (seq v4_2 v4_5) then (Option.bind (X.i_Hand_moves a0) fun v5_1 => (bif v5_1 then (bif (qShape a0.Shape a1.Shape) then some true else some false) else some false)) else (Option.bind (X.i_Move_all a1.Move) fun v4_10 => (Option.bind (X.i_Move_mirrored a0.Move) fun v4_13 => (Option.bind (X.i_Move_all v4_13) fun v4_14 => (Option.bind (X.i_Hand_moves a0) fun v5_1 => (bif v5_1 then (bif (qShape a0.Shape a1.Shape) then some (seq v4_10 v4_14) else some false) else some false)))))))) else (Option.bind (X.i_Orient_mirrored a0.Orient) fun v3_10 => (Option.bind (X.i_Move_all a1.Move) fun v4_2 => (Option.bind (X.i_Move_all a0.Move) fun v4_5 => (bif (seq v4_2 v4_5) then (Option.bind (X.i_Hand_moves a0) fun v5_1 => (bif v5_1 then (bif (qShape a0.Shape a1.Shape) then (bif (qOrient a1.Orient v3_10) then some true else some false) else some false) else some false)) else (Option.bind (X.i_Move_all a1.Move) fun v4_10 => (Option.bind (X.i_Move_mirrored a0.Move) fun v4_13 => (Option.bind (X.i_Move_all v4_13) fun v4_14 => (Option.bind (X.i_Hand_moves a0) fun v5_1 => (bif v5_1 then (bif (qShape a0.Shape a1.Shape) then (bif (qOrient a1.Orient v3_10) then some (seq v4_10 v4_14) else some false) else some false) else some false))))))))))))
def X.s_l1Cur_next (a0 : (List Int)) (t0 : Int) (s0 : Int) : Option (Int × Int × Int) :=
  (bif decide (t0 < (List.length a0 : Int)) then (Option.bind (getI a0 t0) fun y3_8 => (bif decide ((wr (t0 + 1)) ≤ (List.length a0 : Int)) then some ((wr y3_8), (wr (t0 + 1)), (wk .u64 ((wk .u64 ((wk .u64 (s0 * 6364136223846793005)) + (wk .u64 (wr y3_8)))) + 1442695040888963407))) else some ((wr (wk .u64 (Int.ofNat (BitVec.ofInt (IntKind.bits .u64) (Int.fdiv (wk .u64 ((wk .u64 ((wk .u64 (s0 * 6364136223846793005)) + (wk .u64 (wr y3_8)))) + 1442695040888963407)) (2 ^ (min 40 (IntKind.bits .u64)))) &&& BitVec.ofInt (IntKind.bits .u64) 255).toNat))), (wr (t0 + 1)), (wk .u64 ((wk .u64 ((wk .u64 (s0 * 6364136223846793005)) + (wk .u64 (wr y3_8)))) + 1442695040888963407))))) else (bif decide ((wr (t0 + 1)) ≤ (List.length a0 : Int)) then some (0, (wr (t0 + 1)), (wk .u64 ((wk .u64 ((wk .u64 (s0 * 6364136223846793005)) + 0)) + 1442695040888963407))) else some ((wr (wk .u64 (Int.ofNat (BitVec.ofInt (IntKind.bits .u64) (Int.fdiv (wk .u64 ((wk .u64 ((wk .u64 (s0 * 6364136223846793005)) + 0)) + 1442695040888963407)) (2 ^ (min 40 (IntKind.bits .u64)))) &&& BitVec.ofInt (IntKind.bits .u64) 255).toNat))), (wr (t0 + 1)), (wk .u64 ((wk .u64 ((wk .u64 (s0 * 6364136223846793005)) + 0)) + 1442695040888963407)))))
def X.s_l1Cur_pick (a0 : (List Int)) (t0 : Int) (s0 : Int) (a1 : Int) : Option (Int × Int × Int) :=
  (bif decide (a1 ≤ 1) then some (0, t0, s0) else (Option.bind (X.s_l1Cur_next a0 t0 s0) fun v3_1 => (bif decide (a1 > 200) then (Option.bind (X.s_l1Cur_next a0 v3_1.2.1 v3_1.2.2) fun v5_3 => (Option.bind (modI (wr ((wr (v3_1.1 * 256)) + v5_3.1)) a1) fun y6_2 => some (y6_2, v5_3.2.1, v5_3.2.2))) else (Option.bind (modI v3_1.1 a1) fun y6_2 => some (y6_2, v3_1.2.1, v3_1.2.2)))))
def X.s_l1Cur_one (a0 : (List Int)) (t0 : Int) (s0 : Int) (a1 : Int) : Option (Bool × Int × Int) :=
  (Option.bind (X.s_l1Cur_pick a0 t0 s0 a1) fun v1_2 => some ((v1_2.1 == 0), v1_2.2.1, v1_2.2.2))
def X.s_siHand (fu : Nat) (a0 : Hand) : Option Bool :=
  (Option.bind (X.s_shGood fu a0.Shape) fun v1_2 => (bif v1_2 then (Option.bind (X.s_orGood a0.Orient) fun v1_6 => (bif v1_6 then (Option.bind (X.s_plGood a0.Place) fun v1_11 => (bif v1_11 then (Option.bind (X.s_mvGood fu a0.Move) fun v1_16 => some v1_16) else some false)) else some false)) else some false))
def X.s_siGood (fu : Nat) (a0 : Sign) : Option Bool :=
  (Option.bind (X.s_siHand fu a0.Main) fun v1_2 => (bif (!v1_2) then some false else (bif (!a0.Two) then some (qHand a0.Other zHand) else (Option.bind (X.s_siHand fu a0.Other) fun v5_2 => (bif v5_2 then (Option.bind (X.s_siBroken fu a0.Main a0.Other) fun v5_8 => some (v5_8 == 0)) else some false)))))
def X.s_l1Cur_of (a0 : (List Int)) (t0 : Int) (s0 : Int) (a1 : (List Str)) : Option (Str × Int × Int) :=
  (Option.bind (X.s_l1Cur_pick a0 t0 s0 (List.length a1 : Int)) fun v1_4 => (Option.bind (getI a1 v1_4.1) fun y1_5 => some (y1_5, v1_4.2.1, v1_4.2.2)))
def X.s_shMade (fu : Nat) (a0 : Int) (a1 : (List Int)) (a2 : Bool) : Option Shape :=
  (Option.bind (getI a1 0) fun y1_2 => (Option.bind (getI a1 1) fun y1_5 => (Option.bind (getI a1 2) fun y1_8 => (Option.bind (getI a1 3) fun y1_11 => (bif a2 then (Option.bind (X.s_shWide fu (⟨a0, y1_2, y1_5, y1_8, y1_11, zShape.Spread⟩ : Shape)) fun v2_3 => some (⟨a0, y1_2, y1_5, y1_8, y1_11, v2_3⟩ : Shape)) else some (⟨a0, y1_2, y1_5, y1_8, y1_11, false⟩ : Shape))))))
def X.s_l1Cur_shape (fu : Nat) (a0 : (List Int)) (t0 : Int) (s0 : Int) : Option (Shape × Int × Int) :=
  (Option.bind (X.s_l1Cur_one a0 t0 s0 2) fun v1_1 => (bif v1_1.1 then (Option.bind (X.s_l1Cur_of a0 v1_1.2.1 v1_1.2.2 ([([48, 48, 48, 48, 48] : Str), ([48, 48, 48, 48, 48, 115] : Str), ([50, 50, 50, 50, 50] : Str), ([48, 48, 50, 50, 50] : Str), ([49, 48, 48, 50, 50] : Str), ([50, 48, 48, 48, 48] : Str), ([49, 48, 50, 50, 50] : Str), ([48, 48, 48, 50, 50, 115] : Str), ([49, 49, 49, 49, 49] : Str)] : List Str)) fun v2_2 => (Option.bind (X.s_shParse fu v2_2.1) fun v2_3 => some (v2_3.1, v2_2.2.1, v2_2.2.2))) else (Option.bind (X.s_l1Cur_pick a0 v1_1.2.1 v1_1.2.2 3) fun v4_1 => (Option.bind (X.s_l1Cur_pick a0 v4_1.2.1 v4_1.2.2 3) fun v4_3 => (Option.bind (X.s_l1Cur_pick a0 v4_3.2.1 v4_3.2.2 3) fun v4_5 => (Option.bind (X.s_l1Cur_pick a0 v4_5.2.1 v4_5.2.2 3) fun v4_7 => (Option.bind (X.s_l1Cur_pick a0 v4_7.2.1 v4_7.2.2 3) fun v4_9 => (Option.bind (X.s_l1Cur_one a0 v4_9.2.1 v4_9.2.2 2) fun v4_12 => (Option.bind (X.s_shMade fu v4_1.1 ([v4_3.1, v4_5.1, v4_7.1, v4_9.1] : List Int) v4_12.1) fun v4_13 => some (v4_13, v4_12.2.1, v4_12.2.2))))))))))
def X.s_AllOrients (fu : Nat) : Option (List Orient) :=
  (Option.bind (loopM (fun ⟨n1, l2⟩ => (bif decide (n1 ≤ 5) then (Option.bind (loopM (fun ⟨n10, l11⟩ => (bif decide (n10 ≤ 5) then (Option.bind (X.s_orGood (⟨n1, n10⟩ : Orient)) fun v9_1 => (bif v9_1 then (Option.bind (appG nOrient l11 ([(⟨n1, n10⟩ : Orient)] : List Orient)) fun y10_3 => some (.inl ((wr (n10 + 1)), y10_3))) else some (.inl ((wr (n10 + 1)), l11)))) else some (.inr l11))) fu (0, l2)) fun l14 => some (.inl ((wr (n1 + 1)), l14))) else some (.inr l2))) fu (0, ([] : List Orient))) fun l5 => some l5)
def X.s_l1Cur_orient (fu : Nat) (a0 : (List Int)) (t0 : Int) (s0 : Int) : Option (Orient × Int × Int) :=
  (Option.bind (X.s_AllOrients fu) fun v1_0 => (Option.bind (X.s_l1Cur_pick a0 t0 s0 (List.length v1_0 : Int)) fun v2_4 => (Option.bind (getI v1_0 v2_4.1) fun y2_5 => some (y2_5, v2_4.2.1, v2_4.2.2))))
def X.s_l1Cur_place (fu : Nat) (a0 : (List Int)) (t0 : Int) (s0 : Int) : Option (Place × Int × Int) :=
  (Option.bind (X.s_plAll fu) fun v1_0 => (Option.bind (X.s_l1Cur_pick a0 t0 s0 (List.length v1_0 : Int)) fun v2_4 => (Option.bind (getI v1_0 v2_4.1) fun y2_5 => some (y2_5, v2_4.2.1, v2_4.2.2))))
def X.s_l1Cur_among (a0 : (List Int)) (t0 : Int) (s0 : Int) (a1 : (List Int)) : Option (Int × Int × Int) :=
  (Option.bind (X.s_l1Cur_pick a0 t0 s0 (List.length a1 : Int)) fun v1_4 => (Option.bind (getI a1 v1_4.1) fun y1_5 => some (y1_5, v1_4.2.1, v1_4.2.2)))
def X.s_l1Cur_move (fu : Nat) (a0 : (List Int)) (t0 : Int) (s0 : Int) : Option (Move × Int × Int) :=
  (Option.bind (X.s_l1Cur_among a0 t0 s0 ([1, 1, 2, 3] : List Int)) fun v1_2 => (Option.bind (X.s_l1Cur_among a0 v1_2.2.1 v1_2.2.2 ([0, 1, 2, 2, 3, 4, 6] : List Int)) fun v2_2 => (bif (v2_2.1 == 0) then (Option.bind (loopM (fun ⟨n2, n3, s4⟩ => (bif decide ((List.length s4.Steps : Int) < v2_2.1) then (Option.bind (X.s_l1Cur_of a0 n2 n3 ([([117] : Str), ([100] : Str), ([108] : Str), ([114] : Str), ([108] : Str), ([114] : Str), ([102] : Str), ([98] : Str)] : List Str)) fun v6_4 => (Option.bind (catS s4.Steps v6_4.1) fun y6_5 => some (.inl (v6_4.2.1, v6_4.2.2, { s4 with Steps := y6_5 })))) else some (.inr (n2, n3, s4)))) fu (v2_2.2.1, v2_2.2.2, { zMove with Repeat := 1 })) fun ⟨n5, n6, s7⟩ => (bif (v2_2.1 == 4) then (Option.bind (X.s_l1Cur_one a0 n5 n6 2) fun v7_4 => (bif v7_4.1 then (Option.bind (cutS s7.Steps 0 2) fun y8_2 => (Option.bind (cutS s7.Steps 0 2) fun y8_5 => (Option.bind (catS y8_2 y8_5) fun y8_6 => some ({ s7 with Steps := y8_6 }, v7_4.2.1, v7_4.2.2)))) else some (s7, v7_4.2.1, v7_4.2.2))) else some (s7, n5, n6))) else (Option.bind (loopM (fun ⟨n12, n13, s14⟩ => (bif decide ((List.length s14.Steps : Int) < v2_2.1) then (Option.bind (X.s_l1Cur_of a0 n12 n13 ([([117] : Str), ([100] : Str), ([108] : Str), ([114] : Str), ([108] : Str), ([114] : Str), ([102] : Str), ([98] : Str)] : List Str)) fun v6_4 => (Option.bind (catS s14.Steps v6_4.1) fun y6_5 => some (.inl (v6_4.2.1, v6_4.2.2, { s14 with Steps := y6_5 })))) else some (.inr (n12, n13, s14)))) fu (v2_2.2.1, v2_2.2.2, { zMove with Repeat := v1_2.1 })) fun ⟨n15, n16, s17⟩ => (bif (v2_2.1 == 4) then (Option.bind (X.s_l1Cur_one a0 n15 n16 2) fun v7_4 => (bif v7_4.1 then (Option.bind (cutS s17.Steps 0 2) fun y8_2 => (Option.bind (cutS s17.Steps 0 2) fun y8_5 => (Option.bind (catS y8_2 y8_5) fun y8_6 => some ({ s17 with Steps := y8_6 }, v7_4.2.1, v7_4.2.2)))) else some (s17, v7_4.2.1, v7_4.2.2))) else some (s17, n15, n16))))))
def X.s_l1Cur_hand (fu : Nat) (a0 : (List Int)) (t0 : Int) (s0 : Int) : Option (Hand × Int × Int) :=
  (Option.bind (X.s_l1Cur_shape fu a0 t0 s0) fun v1_1 => (Option.bind (X.s_l1Cur_orient fu a0 v1_1.2.1 v1_1.2.2) fun v1_3 => (Option.bind (X.s_l1Cur_place fu a0 v1_3.2.1 v1_3.2.2) fun v1_5 => (Option.bind (X.s_l1Cur_move fu a0 v1_5.2.1 v1_5.2.2) fun v1_7 => some ((⟨v1_1.1, v1_3.1, v1_5.1, v1_7.1⟩ : Hand), v1_7.2.1, v1_7.2.2)))))
def X.s_mvOf (fu : Nat) (a0 : Str) : Option (Move × Bool) :=
  (bif (seq a0 ([] : Str)) then some ({ zMove with Repeat := 1 }, true) else (orEl (loopM (fun n2 => (bif decide (n2 ≤ 6) then (bif decide (n2 ≤ (List.length a0 : Int)) then (orEl (loopM (fun n6 => (bif decide (n6 ≤ 3) then (Option.bind (cutS a0 0 n2) fun y9_2 => (Option.bind (X.s_mvTimes fu y9_2 n6) fun v9_4 => (bif (seq v9_4 a0) then (Option.bind (cutS a0 0 n2) fun y10_2 => some (.inr (.inl ((⟨y10_2, n6⟩ : Move), true)))) else some (.inl (wr (n6 + 1)))))) else some (.inr (.inr ())))) fu 1) (fun r => some (.inr (.inl r))) (fun _ => some (.inl (wr (n2 + 1))))) else some (.inr (.inr ()))) else some (.inr (.inr ())))) fu 1) (fun r => some r) (fun _ => some (zMove, false))))
def X.s_mvNormal (fu : Nat) (a0 : Move) : Option Move :=
  (Option.bind (X.s_mvAll fu a0) fun v1_1 => (Option.bind (X.s_mvOf fu v1_1) fun v1_2 => some v1_2.1))
def X.s_plMirror (a0 : Place) : Option Place :=
  some ({ a0 with Side := (wr (0 - a0.Side)) })
def X.s_l1Cur_otherFor (fu : Nat) (a0 : (List Int)) (t0 : Int) (s0 : Int) (a1 : Hand) : Option (Hand × Int × Int) :=
  (Option.bind (X.s_l1Cur_pick a0 t0 s0 6) fun v2_1 => (bif (v2_1.1 == 0) then (Option.bind (X.s_orMirror a1.Orient) fun v6_2 => (Option.bind (X.s_plMirror a1.Place) fun v7_2 => (Option.bind (X.s_mvMirror fu a1.Move) fun v8_2 => some ((⟨a1.Shape, v6_2, v7_2, v8_2⟩ : Hand), v2_1.2.1, v2_1.2.2)))) else (bif (v2_1.1 == 1) then (Option.bind (X.s_orMirror a1.Orient) fun v6_2 => (Option.bind (X.s_plMirror a1.Place) fun v7_2 => (Option.bind (X.s_mvMirror fu a1.Move) fun v8_2 => some ((⟨a1.Shape, v6_2, v7_2, v8_2⟩ : Hand), v2_1.2.1, v2_1.2.2)))) else (bif (v2_1.1 == 2) then (Option.bind (X.s_l1Cur_place fu a0 v2_1.2.1 v2_1.2.2) fun v11_1 => some ({ a1 with Place := v11_1.1, Move := { zMove with Repeat := 1 } }, v11_1.2.1, v11_1.2.2)) else (bif (v2_1.1 == 3) then (Option.bind (X.s_l1Cur_hand fu a0 v2_1.2.1 v2_1.2.2) fun v13_1 => (Option.bind (X.s_siPlain fu) fun v15_0 => (Option.bind (X.s_l1Cur_pick a0 v13_1.2.1 v13_1.2.2 (List.length v15_0 : Int)) fun v16_4 => (Option.bind (getI v15_0 v16_4.1) fun y16_5 => some ({ v13_1.1 with Shape := y16_5, Move := { zMove with Repeat := 1 } }, v16_4.2.1, v16_4.2.2))))) else (bif (v2_1.1 == 4) then (Option.bind (X.s_mvNormal fu a1.Move) fun v18_2 => some ({ a1 with Move := v18_2 }, v2_1.2.1, v2_1.2.2)) else (Option.bind (X.s_l1Cur_hand fu a0 v2_1.2.1 v2_1.2.2) fun v3_1 => some (v3_1.1, v3_1.2.1, v3_1.2.2))))))))
def X.s_l1Cur_sign (fu : Nat) (a0 : (List Int)) (t0 : Int) (s0 : Int) : Option (Sign × Int × Int) :=
  (Option.bind (X.s_l1Cur_hand fu a0 t0 s0) fun v1_1 => (Option.bind (X.s_l1Cur_one a0 v1_1.2.1 v1_1.2.2 2) fun v2_1 => (bif v2_1.1 then some ({ zSign with Main := v1_1.1 }, v2_1.2.1, v2_1.2.2) else (Option.bind (X.s_l1Cur_otherFor fu a0 v2_1.2.1 v2_1.2.2 v1_1.1) fun v5_3 => (Option.bind (X.s_siGood fu (⟨v1_1.1, true, v5_3.1⟩ : Sign)) fun v6_1 => (bif (!v6_1) then some ({ zSign with Main := v1_1.1 }, v5_3.2.1, v5_3.2.2) else some ((⟨v1_1.1, true, v5_3.1⟩ : Sign), v5_3.2.1, v5_3.2.2)))))))
def X.s_l1Cur_anyShape (fu : Nat) (a0 : (List Int)) (t0 : Int) (s0 : Int) : Option (Shape × Int × Int) :=
  (Option.bind (X.s_l1Cur_shape fu a0 t0 s0) fun v1_1 => (Option.bind (X.s_l1Cur_pick a0 v1_1.2.1 v1_1.2.2 40) fun v2_1 => (bif (v2_1.1 == 0) then (Option.bind (X.s_l1Cur_among a0 v2_1.2.1 v2_1.2.2 ([(-1), 3] : List Int)) fun v4_2 => some ({ v1_1.1 with Thumb := v4_2.1 }, v4_2.2.1, v4_2.2.2)) else (bif (v2_1.1 == 1) then (Option.bind (X.s_l1Cur_among a0 v2_1.2.1 v2_1.2.2 ([(-1), 3, (-9223372036854775808)] : List Int)) fun v6_2 => some ({ v1_1.1 with Ring := v6_2.1 }, v6_2.2.1, v6_2.2.2)) else (bif (v2_1.1 == 2) then (Option.bind (X.s_l1Cur_among a0 v2_1.2.1 v2_1.2.2 ([(-1), 3] : List Int)) fun v8_2 => some ({ v1_1.1 with Index := v8_2.1, Little := 2 }, v8_2.2.1, v8_2.2.2)) else (bif (v2_1.1 == 3) then (Option.bind (X.s_l1Cur_pick a0 v2_1.2.1 v2_1.2.2 3) fun v11_1 => (Option.bind (X.s_l1Cur_pick a0 v11_1.2.1 v11_1.2.2 2) fun v11_3 => some ((⟨zShape.Thumb, v11_1.1, (wr (1 + v11_3.1)), zShape.Ring, 1, true⟩ : Shape), v11_3.2.1, v11_3.2.2))) else some (v1_1.1, v2_1.2.1, v2_1.2.2)))))))
def X.s_l1Cur_anyOrient (fu : Nat) (a0 : (List Int)) (t0 : Int) (s0 : Int) : Option (Orient × Int × Int) :=
  (Option.bind (X.s_l1Cur_one a0 t0 s0 16) fun v1_1 => (bif v1_1.1 then (Option.bind (X.s_l1Cur_pick a0 v1_1.2.1 v1_1.2.2 8) fun v2_1 => (Option.bind (X.s_l1Cur_pick a0 v2_1.2.1 v2_1.2.2 8) fun v2_4 => some ((⟨(wr (v2_1.1 - 1)), (wr (v2_4.1 - 1))⟩ : Orient), v2_4.2.1, v2_4.2.2))) else (Option.bind (X.s_l1Cur_orient fu a0 v1_1.2.1 v1_1.2.2) fun v3_1 => some (v3_1.1, v3_1.2.1, v3_1.2.2))))
def X.s_l1Cur_anyPlace (fu : Nat) (a0 : (List Int)) (t0 : Int) (s0 : Int) : Option (Place × Int × Int) :=
  (Option.bind (X.s_l1Cur_place fu a0 t0 s0) fun v1_1 => (Option.bind (X.s_l1Cur_pick a0 v1_1.2.1 v1_1.2.2 30) fun v2_1 => (bif (v2_1.1 == 0) then (Option.bind (X.s_l1Cur_among a0 v2_1.2.1 v2_1.2.2 ([(-1), 10, (-9223372036854775808)] : List Int)) fun v4_2 => some ({ v1_1.1 with Region := v4_2.1 }, v4_2.2.1, v4_2.2.2)) else (bif (v2_1.1 == 1) then (Option.bind (X.s_l1Cur_among a0 v2_1.2.1 v2_1.2.2 ([(-2), 2, 9223372036854775807] : List Int)) fun v6_2 => some ({ v1_1.1 with Side := v6_2.1 }, v6_2.2.1, v6_2.2.2)) else (bif (v2_1.1 == 2) then some ({ zPlace with Contact := true }, v2_1.2.1, v2_1.2.2) else some (v1_1.1, v2_1.2.1, v2_1.2.2))))))
def X.s_l1Cur_anyMove (fu : Nat) (a0 : (List Int)) (t0 : Int) (s0 : Int) : Option (Move × Int × Int) :=
  (Option.bind (X.s_l1Cur_move fu a0 t0 s0) fun v1_1 => (Option.bind (X.s_l1Cur_pick a0 v1_1.2.1 v1_1.2.2 30) fun v2_1 => (bif (v2_1.1 == 0) then (Option.bind (X.s_l1Cur_among a0 v2_1.2.1 v2_1.2.2 ([0, 4, (-9223372036854775808)] : List Int)) fun v4_2 => some ({ v1_1.1 with Repeat := v4_2.1 }, v4_2.2.1, v4_2.2.2)) else (bif (v2_1.1 == 1) then (Option.bind (X.s_l1Cur_of a0 v2_1.2.1 v2_1.2.2 ([([120] : Str), ([117, 117, 117, 117, 117, 117, 117] : Str), ([85] : Str)] : List Str)) fun v6_4 => (Option.bind (catS v1_1.1.Steps v6_4.1) fun y6_5 => some ({ v1_1.1 with Steps := y6_5 }, v6_4.2.1, v6_4.2.2))) else (bif (v2_1.1 == 2) then some ({ zMove with Repeat := 2 }, v2_1.2.1, v2_1.2.2) else some (v1_1.1, v2_1.2.1, v2_1.2.2))))))
def X.s_l1Cur_anyHand (fu : Nat) (a0 : (List Int)) (t0 : Int) (s0 : Int) : Option (Hand × Int × Int) :=
  (Option.bind (X.s_l1Cur_hand fu a0 t0 s0) fun v1_1 => (Option.bind (X.s_l1Cur_pick a0 v1_1.2.1 v1_1.2.2 40) fun v2_1 => (bif (v2_1.1 == 0) then (Option.bind (X.s_l1Cur_anyShape fu a0 v2_1.2.1 v2_1.2.2) fun v4_1 => some ({ v1_1.1 with Shape := v4_1.1 }, v4_1.2.1, v4_1.2.2)) else (bif (v2_1.1 == 1) then (Option.bind (X.s_l1Cur_anyOrient fu a0 v2_1.2.1 v2_1.2.2) fun v6_1 => some ({ v1_1.1 with Orient := v6_1.1 }, v6_1.2.1, v6_1.2.2)) else (bif (v2_1.1 == 2) then (Option.bind (X.s_l1Cur_anyPlace fu a0 v2_1.2.1 v2_1.2.2) fun v8_1 => some ({ v1_1.1 with Place := v8_1.1 }, v8_1.2.1, v8_1.2.2)) else (bif (v2_1.1 == 3) then (Option.bind (X.s_l1Cur_anyMove fu a0 v2_1.2.1 v2_1.2.2) fun v10_1 => some ({ v1_1.1 with Move := v10_1.1 }, v10_1.2.1, v10_1.2.2)) else some (v1_1.1, v2_1.2.1, v2_1.2.2)))))))
def X.s_l1Cur_anySign (fu : Nat) (a0 : (List Int)) (t0 : Int) (s0 : Int) : Option (Sign × Int × Int) :=
  (Option.bind (X.s_l1Cur_sign fu a0 t0 s0) fun v1_1 => (Option.bind (X.s_l1Cur_pick a0 v1_1.2.1 v1_1.2.2 30) fun v2_1 => (bif (v2_1.1 == 0) then (Option.bind (X.s_l1Cur_anyHand fu a0 v2_1.2.1 v2_1.2.2) fun v4_1 => some ({ v1_1.1 with Main := v4_1.1 }, v4_1.2.1, v4_1.2.2)) else (bif (v2_1.1 == 1) then some ({ v1_1.1 with Two := (!v1_1.1.Two) }, v2_1.2.1, v2_1.2.2) else (bif (v2_1.1 == 2) then (Option.bind (X.s_l1Cur_anyHand fu a0 v2_1.2.1 v2_1.2.2) fun v9_1 => some ((⟨v1_1.1.Main, true, v9_1.1⟩ : Sign), v9_1.2.1, v9_1.2.2)) else some (v1_1.1, v2_1.2.1, v2_1.2.2))))))
def X.s_l1Cur_compound (fu : Nat) (a0 : (List Int)) (t0 : Int) (s0 : Int) : Option ((List Sign) × Int × Int) :=
  (Option.bind (X.s_l1Cur_among a0 t0 s0 ([2, 0, 1, 5] : List Int)) fun v2_3 => (Option.bind (X.s_l1Cur_among a0 v2_3.2.1 v2_3.2.2 ([2, 2, 3, 4, v2_3.1] : List Int)) fun v2_5 => (Option.bind (loopM (fun ⟨n1, n2, l3⟩ => (bif decide ((List.length l3 : Int) < v2_5.1) then (Option.bind (X.s_l1Cur_sign fu a0 n1 n2) fun v4_2 => (Option.bind (appG nSign l3 ([v4_2.1] : List Sign)) fun y4_4 => some (.inl (v4_2.2.1, v4_2.2.2, y4_4)))) else some (.inr (n1, n2, l3)))) fu (v2_5.2.1, v2_5.2.2, ([] : List Sign))) fun ⟨n6, n7, l8⟩ => (bif decide (v2_5.1 > 0) then (Option.bind (X.s_l1Cur_one a0 n6 n7 20) fun v5_4 => (bif v5_4.1 then (Option.bind (X.s_l1Cur_pick a0 v5_4.2.1 v5_4.2.2 v2_5.1) fun v6_3 => (Option.bind (X.s_l1Cur_anySign fu a0 v6_3.2.1 v6_3.2.2) fun v6_5 => (Option.bind (getI l8 v6_3.1) fun y6_6 => some ((List.set l8 (Int.toNat v6_3.1) v6_5.1), v6_5.2.1, v6_5.2.2)))) else some (l8, v5_4.2.1, v5_4.2.2))) else some (l8, n6, n7)))))
def X.s_DrawCompoundOf (fu : Nat) (a0 : (List Int)) : Option (List Sign) :=
  (Option.bind (X.s_l1Cur_compound fu a0 0 0) fun v2_1 => some v2_1.1)
def X.s_DrawSmoothestOrder (fu : Nat) (a0 : (List Int)) : Option (List Sign) :=
  (Option.bind (X.s_DrawCompoundOf fu a0) fun v1_1 => some v1_1)
def X.i_IsHand (a0 : Hand) : Option Bool :=
  (Option.bind (X.i_IsShape a0.Shape) fun v1_2 => (bif v1_2 then (Option.bind (X.i_IsOrient a0.Orient) fun v1_6 => (bif v1_6 then (Option.bind (X.i_IsPlace a0.Place) fun v1_11 => (bif v1_11 then (Option.bind (X.i_IsMove a0.Move) fun v1_16 => some v1_16) else some false)) else some false)) else some false))
def X.i_IsSign (fu : Nat) (a0 : Sign) : Option Bool :=
  (Option.bind (X.i_IsHand a0.Main) fun v1_2 => (bif (!v1_2) then some false else (bif (!a0.Two) then some (qHand a0.Other zHand) else (Option.bind (X.i_IsHand a0.Other) fun v5_2 => (bif v5_2 then (Option.bind (X.i_keepRules fu a0.Main a0.Other) fun v5_8 => some v5_8) else some false)))))
def X.slices_IndexFunc_i_Sign_i_Sign (a0 : (List Sign)) (a1 : (Sign → Option Bool)) : Option Int :=
  (orEl (rangeM (fun (j2 : Int) (x3 : Sign) _ => (Option.bind (a1 x3) fun v4_5 => (bif v4_5 then some (.inr (.inl (j2 : Int))) else some (.inl ())))) (fun _ => some (.inr ())) a0 0 ()) (fun r => some r) (fun _ => some (-1)))
def X.slices_ContainsFunc_i_Sign_i_Sign (a0 : (List Sign)) (a1 : (Sign → Option Bool)) : Option Bool :=
  (Option.bind (X.slices_IndexFunc_i_Sign_i_Sign a0 a1) fun v1_2 => some (decide (v1_2 ≥ 0)))
def X.i_allOf_i_Sign_1 (a1 : (Sign → Option Bool)) (a0 : Sign) : Option Bool :=
  (Option.bind (a1 a0) fun v1_2 => some (!v1_2))
def X.i_allOf_i_Sign (a0 : (List Sign)) (a1 : (Sign → Option Bool)) : Option Bool :=
  (Option.bind (X.slices_ContainsFunc_i_Sign_i_Sign a0 (X.i_allOf_i_Sign_1 a1)) fun v1_2 => some (!v1_2))
def X.i_areSigns (fu : Nat) (a0 : (List Sign)) (a1 : Int) : Option Bool :=
  (bif decide ((List.length a0 : Int) ≤ a1) then (Option.bind (X.i_allOf_i_Sign a0 (X.i_IsSign fu)) fun v1_6 => some v1_6) else some false)
def X.i_isMade (fu : Nat) (a0 : (List Sign)) : Option Bool :=
  (bif decide ((List.length a0 : Int) ≥ 2) then (Option.bind (X.i_areSigns fu a0 4) fun v1_5 => some v1_5) else some false)
def X.i_distance (a0 : Int) (a1 : Int) : Option Int :=
  some (if (wr (a1 - a0)) > (wr (a0 - a1)) then (wr (a1 - a0)) else (wr (a0 - a1)))
def X.i_Place_distance (a0 : Place) (a1 : Place) : Option Int :=
  (Option.bind (X.i_distance a0.Side a1.Side) fun v1_4 => (bif (!(a0.Contact == a1.Contact)) then (bif (!((a0.Region == 0) == (a1.Region == 0))) then some (wr ((wr (v1_4 + 1)) + 4)) else (Option.bind (X.i_distance a0.Region a1.Region) fun v6_5 => some (wr ((wr (v1_4 + 1)) + v6_5)))) else (bif (!((a0.Region == 0) == (a1.Region == 0))) then some (wr (v1_4 + 4)) else (Option.bind (X.i_distance a0.Region a1.Region) fun v6_5 => some (wr (v1_4 + v6_5))))))
def X.i_gap (a0 : Sign) (a1 : Sign) : Option Int :=
  (Option.bind (X.i_Place_distance a0.Main.Place a1.Main.Place) fun v1_6 => (bif (!(a0.Two == a1.Two)) then some (wr (v1_6 + 1)) else some v1_6))
def X.i_gapsIn (fu : Nat) (a0 : (List Sign)) : Option Int :=
  (Option.bind (loopM (fun ⟨n1, n2⟩ => (bif decide (n2 < (List.length a0 : Int)) then (Option.bind (getI a0 (wr (n2 - 1))) fun y5_4 => (Option.bind (getI a0 n2) fun y5_8 => (Option.bind (X.i_gap y5_4 y5_8) fun v5_10 => some (.inl ((wr (n1 + v5_10)), (wr (n2 + 1))))))) else some (.inr n1))) fu (0, 1)) fun n3 => some n3)
def X.slices_Clone_int_int (a0 : (List Int)) : Option (List Int) :=
  appG (eI .i64) ([] : List Int) a0
def X.slices_Index_int_int (a0 : (List Int)) (a1 : Int) : Option Int :=
  (orEl (rangeM (fun (j2 : Int) (x3 : Int) _ => (bif (a1 == x3) then some (.inr (.inl (j2 : Int))) else some (.inl ()))) (fun _ => some (.inr ())) a0 0 ()) (fun r => some r) (fun _ => some (-1)))
def X.slices_Contains_int_int (a0 : (List Int)) (a1 : Int) : Option Bool :=
  (Option.bind (X.slices_Index_int_int a0 a1) fun v1_2 => some (decide (v1_2 ≥ 0)))
def X.slices_Clone_i_Sign_i_Sign (a0 : (List Sign)) : Option (List Sign) :=
  appG nSign ([] : List Sign) a0
def X.i_SmoothestOrder_1 : Nat → (List Sign) → (List Int) → (List Sign) → (List Int) → Int → Option ((List Int) × Int)
  | 0, _, _, _, _, _ => none
  | fu + 1, c0, a0, a1, b0, z0 => (Option.bind (bif ((List.length a0 : Int) == (List.length c0 : Int)) then (bif (List.isEmpty b0) then (Option.bind (X.slices_Clone_int_int a0) fun v1_1 => (Option.bind (X.i_gapsIn fu a1) fun v1_3 => (bif (List.isEmpty v1_1) then none else some (v1_3, v1_1)))) else (Option.bind (X.i_gapsIn fu a1) fun v0_10 => (bif decide (v0_10 < z0) then (Option.bind (X.slices_Clone_int_int a0) fun v1_1 => (Option.bind (X.i_gapsIn fu a1) fun v1_3 => (bif (List.isEmpty v1_1) then none else some (v1_3, v1_1)))) else some (z0, b0)))) else some (z0, b0)) fun ⟨s1, l2⟩ => (Option.bind (rangeM (fun (j20 : Int) (x21 : Sign) ⟨s11, l12⟩ => (Option.bind (X.slices_Contains_int_int a0 (j20 : Int)) fun v5_2 => (bif (!v5_2) then (Option.bind (X.slices_Clone_int_int a0) fun v6_2 => (Option.bind (appG (eI .i64) v6_2 ([(j20 : Int)] : List Int)) fun y6_5 => (Option.bind (X.slices_Clone_i_Sign_i_Sign a1) fun v6_7 => (Option.bind (appG nSign v6_7 ([x21] : List Sign)) fun y6_10 => (Option.bind (X.i_SmoothestOrder_1 fu c0 y6_5 y6_10 l12 s11) fun v6_11 => some (.inl (v6_11.2, v6_11.1))))))) else some (.inl (s11, l12))))) (fun ⟨s11, l12⟩ => some (s11, l12)) c0 0 (s1, l2)) fun ⟨s15, l16⟩ => some (l16, s15)))
def X.i_SmoothestOrder (fu : Nat) (a0 : (List Sign)) : Option ((List Int) × Int × Bool) :=
  (Option.bind (X.i_isMade fu a0) fun v1_1 => (bif (!v1_1) then some (([] : List _), 0, false) else (Option.bind (X.i_SmoothestOrder_1 fu a0 ([] : List _) ([] : List _) ([] : List Int) 0) fun v7_1 => some (v7_1.1, v7_1.2, true))))
def X.s_paList (fu : Nat) (a0 : (List Sign)) : Option Bool :=
  (orEl (rangeM (fun (j2 : Int) (x3 : Sign) _ => (Option.bind (X.s_siGood fu x3) fun v4_1 => (bif (!v4_1) then some (.inr (.inl false)) else some (.inl ())))) (fun _ => some (.inr ())) a0 0 ()) (fun r => some r) (fun _ => some (decide ((List.length a0 : Int) ≤ 20))))
def X.s_cmGood (fu : Nat) (a0 : (List Sign)) : Option Bool :=
  (Option.bind (X.s_l1In (List.length a0 : Int) 2 4) fun v1_2 => (bif v1_2 then (Option.bind (X.s_paList fu a0) fun v1_5 => some v1_5) else some false))
def X.s_l1Has (a0 : (List Int)) (a1 : Int) : Option Bool :=
  (orEl (rangeM (fun (j2 : Int) (x3 : Int) _ => (bif (x3 == a1) then some (.inr (.inl true)) else some (.inl ()))) (fun _ => some (.inr ())) a0 0 ()) (fun r => some r) (fun _ => some false))
def X.s_l1Own (a0 : (List Int)) : Option (List Int) :=
  (Option.bind (appG (eI .i64) ([] : List Int) a0) fun y1_2 => some y1_2)
def X.s_cmOrders : Nat → Int → (List Int) → Option (List (List Int))
  | 0, _, _ => none
  | fu + 1, a0, a1 => (bif ((List.length a1 : Int) == a0) then some [a1] else (Option.bind (loopM (fun ⟨n2, l6⟩ => (bif decide (n2 < a0) then (Option.bind (X.s_l1Has a1 n2) fun v7_2 => (bif (!v7_2) then (Option.bind (X.s_l1Own a1) fun v8_3 => (Option.bind (appG (eI .i64) v8_3 ([n2] : List Int)) fun y8_6 => (Option.bind (X.s_cmOrders fu a0 y8_6) fun v8_7 => (Option.bind (appD l6 v8_7) fun y8_8 => some (.inl ((wr (n2 + 1)), y8_8)))))) else some (.inl ((wr (n2 + 1)), l6)))) else some (.inr l6))) fu (0, ([] : List (List Int)))) fun l10 => some l10))
def X.s_l1Most (a0 : Int) (a1 : Int) : Option Int :=
  (bif decide (a0 > a1) then some a0 else some a1)
def X.s_l1Abs (a0 : Int) : Option Int :=
  (Option.bind (X.s_l1Most a0 (wr (0 - a0))) fun v1_3 => some v1_3)
def X.s_plFar (a0 : Place) (a1 : Place) : Option Int :=
  (Option.bind (X.s_l1Abs (wr (a0.Side - a1.Side))) fun v1_5 => (bif (!(a0.Contact == a1.Contact)) then (bif (!((a0.Region == 0) == (a1.Region == 0))) then some (wr ((wr (v1_5 + 1)) + 4)) else (Option.bind (X.s_l1Abs (wr (a0.Region - a1.Region))) fun v6_6 => some (wr ((wr (v1_5 + 1)) + v6_6)))) else (bif (!((a0.Region == 0) == (a1.Region == 0))) then some (wr (v1_5 + 4)) else (Option.bind (X.s_l1Abs (wr (a0.Region - a1.Region))) fun v6_6 => some (wr (v1_5 + v6_6))))))
def X.s_cmGap (a0 : Sign) (a1 : Sign) : Option Int :=
  (Option.bind (X.s_plFar a0.Main.Place a1.Main.Place) fun v1_6 => (bif (!(a0.Two == a1.Two)) then some (wr (v1_6 + 1)) else some v1_6))
def X.s_SmoothestOrder (fu : Nat) (a0 : (List Sign)) : Option ((List Int) × Int × Bool) :=
  (Option.bind (X.s_cmGood fu a0) fun v1_1 => (bif (!v1_1) then some (([] : List _), 0, false) else (Option.bind (X.s_cmOrders fu (List.length a0 : Int) ([] : List _)) fun v5_2 => (Option.bind (rangeM (fun (j7 : Int) (x8 : (List Int)) ⟨n2, n3⟩ => (Option.bind (loopM (fun ⟨n12, n13⟩ => (bif decide (n13 < (List.length x8 : Int)) then (Option.bind (getI x8 (wr (n13 - 1))) fun y12_5 => (Option.bind (getI a0 y12_5) fun y12_7 => (Option.bind (getI x8 n13) fun y12_12 => (Option.bind (getI a0 y12_12) fun y12_14 => (Option.bind (X.s_cmGap y12_7 y12_14) fun v12_16 => some (.inl ((wr (n12 + v12_16)), (wr (n13 + 1))))))))) else some (.inr (n2, n12)))) fu (0, 1)) fun ⟨n14, n15⟩ => (bif ((List.length (blL v5_2 n14) : Int) == 0) then some (.inl ((j7 : Int), n15)) else (bif decide (n15 < n3) then some (.inl ((j7 : Int), n15)) else some (.inl (n14, n3)))))) (fun ⟨n2, n3⟩ => some (n2, n3)) v5_2 0 ((-1), 0)) fun ⟨n4, n5⟩ => some ((blL v5_2 n4), n5, true)))))
def X.i_Sign_steps (a0 : Sign) : Option Int :=
  (Option.bind (X.i_Move_all a0.Main.Move) fun v1_3 => (Option.bind (X.i_Move_all a0.Other.Move) fun v1_8 => some (if (List.length v1_8 : Int) > (List.length v1_3 : Int) then (List.length v1_8 : Int) else (List.length v1_3 : Int))))
def X.i_CompoundTime (fu : Nat) (a0 : (List Sign)) : Option (Int × Bool) :=
  (Option.bind (X.i_isMade fu a0) fun v1_1 => (bif (!v1_1) then some (0, false) else (Option.bind (X.i_gapsIn fu a0) fun v3_1 => (Option.bind (rangeM (fun (j5 : Int) (x6 : Sign) n2 => (Option.bind (X.i_Sign_steps x6) fun v7_2 => some (.inl (wr (n2 + (wr (v7_2 + 1))))))) (fun n2 => some n2) a0 0 v3_1) fun n3 => some (n3, true)))))
def X.s_ruSteps (fu : Nat) (a0 : Sign) : Option Int :=
  (Option.bind (X.s_mvAll fu a0.Main.Move) fun v1_3 => (Option.bind (X.s_mvAll fu a0.Other.Move) fun v1_8 => (Option.bind (X.s_l1Most (List.length v1_3 : Int) (List.length v1_8 : Int)) fun v1_10 => some v1_10)))
def X.s_CompoundTime (fu : Nat) (a0 : (List Sign)) : Option (Int × Bool) :=
  (Option.bind (X.s_cmGood fu a0) fun v1_1 => (bif (!v1_1) then some (0, false) else (Option.bind (rangeM (fun (j5 : Int) (x6 : Sign) n2 => (Option.bind (X.s_ruSteps fu x6) fun v7_2 => (bif decide ((j5 : Int) > 0) then (Option.bind (getI a0 (wr ((j5 : Int) - 1))) fun y9_4 => (Option.bind (X.s_cmGap y9_4 x6) fun v9_7 => some (.inl (wr ((wr (n2 + (wr (v7_2 + 1)))) + v9_7))))) else some (.inl (wr (n2 + (wr (v7_2 + 1)))))))) (fun n2 => some n2) a0 0 0) fun n3 => some (n3, true))))
def X.strings_Join (a0 : List Str) (a1 : Str) : Option Str := if (Lib.join a0 a1).length ≤ 140737488355328 ∧ a0.length ≤ 140737488355328 then some (Lib.join a0 a1) else none
def X.i_Orient_text (a0 : Orient) : Option Str :=
  (Option.bind (cutS ([117, 100, 108, 114, 102, 98] : Str) a0.Palm (wr (a0.Palm + 1))) fun y1_5 => (Option.bind (cutS ([117, 100, 108, 114, 102, 98] : Str) a0.Fingers (wr (a0.Fingers + 1))) fun y1_11 => (Option.bind (catS y1_5 y1_11) fun y1_12 => some y1_12)))
def X.i_Hand_text (a0 : Hand) : Option Str :=
  (Option.bind (X.i_Shape_text a0.Shape) fun v1_2 => (Option.bind (X.i_Orient_text a0.Orient) fun v1_5 => (Option.bind (X.i_Place_text a0.Place) fun v1_8 => (Option.bind (X.i_Move_text a0.Move) fun v1_11 => (Option.bind (X.strings_Join ([v1_2, v1_5, v1_8, v1_11] : List Str) ([47] : Str)) fun v1_13 => some v1_13)))))
def X.i_Sign_text (a0 : Sign) : Option Str :=
  (bif (!a0.Two) then (Option.bind (X.i_Hand_text a0.Main) fun v2_2 => some v2_2) else (Option.bind (X.i_Hand_text a0.Main) fun v3_2 => (Option.bind (catS v3_2 ([43] : Str)) fun y3_3 => (Option.bind (X.i_Hand_text a0.Other) fun v3_6 => (Option.bind (catS y3_3 v3_6) fun y3_7 => some y3_7)))))
def X.i_CompoundText (fu : Nat) (a0 : (List Sign)) : Option (Str × Bool) :=
  (Option.bind (X.i_isMade fu a0) fun v1_1 => (bif (!v1_1) then some (([] : Str), false) else (Option.bind (rangeM (fun (j9 : Int) (x10 : Sign) l2 => (Option.bind (X.i_Sign_text x10) fun v7_2 => (Option.bind (appG eS l2 ([v7_2] : List Str)) fun y7_4 => some (.inl y7_4)))) (fun l2 => some l2) a0 0 ([] : List Str)) fun l5 => (Option.bind (X.strings_Join l5 ([38] : Str)) fun v9_1 => some (v9_1, true)))))
def X.s_shText (fu : Nat) (a0 : Shape) : Option Str :=
  (Option.bind (X.s_l1Num fu a0.Thumb) fun v1_2 => (Option.bind (X.s_shFingers a0) fun v2_1 => (Option.bind (rangeM (fun (j4 : Int) (x5 : Int) t1 => (Option.bind (X.s_l1Num fu x5) fun v5_2 => (Option.bind (catS t1 v5_2) fun y5_3 => some (.inl y5_3)))) (fun t1 => some t1) v2_1 0 v1_2) fun t2 => (bif a0.Spread then (Option.bind (catS t2 ([115] : Str)) fun y8_1 => some y8_1) else some t2))))
def X.s_orText (a0 : Orient) : Option Str :=
  (Option.bind (cutS ([117, 100, 108, 114, 102, 98] : Str) a0.Palm (wr (a0.Palm + 1))) fun y1_5 => (Option.bind (cutS ([117, 100, 108, 114, 102, 98] : Str) a0.Fingers (wr (a0.Fingers + 1))) fun y1_11 => (Option.bind (catS y1_5 y1_11) fun y1_12 => some y1_12)))
def X.s_siText (fu : Nat) (a0 : Hand) : Option Str :=
  (Option.bind (X.s_shText fu a0.Shape) fun v1_2 => (Option.bind (catS v1_2 ([47] : Str)) fun y1_3 => (Option.bind (X.s_orText a0.Orient) fun v1_6 => (Option.bind (catS y1_3 v1_6) fun y1_7 => (Option.bind (catS y1_7 ([47] : Str)) fun y1_8 => (Option.bind (X.s_plText a0.Place) fun v1_11 => (Option.bind (catS y1_8 v1_11) fun y1_12 => (Option.bind (catS y1_12 ([47] : Str)) fun y1_13 => (Option.bind (X.s_mvText fu a0.Move) fun v1_16 => (Option.bind (catS y1_13 v1_16) fun y1_17 => some y1_17))))))))))
def X.s_paText (fu : Nat) (a0 : Sign) : Option Str :=
  (bif a0.Two then (Option.bind (X.s_siText fu a0.Main) fun v2_2 => (Option.bind (catS v2_2 ([43] : Str)) fun y2_3 => (Option.bind (X.s_siText fu a0.Other) fun v2_6 => (Option.bind (catS y2_3 v2_6) fun y2_7 => some y2_7)))) else (Option.bind (X.s_siText fu a0.Main) fun v3_2 => some v3_2))
def X.s_CompoundText (fu : Nat) (a0 : (List Sign)) : Option (Str × Bool) :=
  (Option.bind (X.s_cmGood fu a0) fun v1_1 => (bif (!v1_1) then some (([] : Str), false) else (Option.bind (rangeM (fun (j5 : Int) (x6 : Sign) t2 => (bif decide ((j5 : Int) > 0) then (Option.bind (catS t2 ([38] : Str)) fun y8_1 => (Option.bind (X.s_paText fu x6) fun v9_2 => (Option.bind (catS y8_1 v9_2) fun y9_3 => some (.inl y9_3)))) else (Option.bind (X.s_paText fu x6) fun v9_2 => (Option.bind (catS t2 v9_2) fun y9_3 => some (.inl y9_3))))) (fun t2 => some t2) a0 0 ([] : Str)) fun t3 => some (t3, true))))
def X.s_DrawGapOfSigns (fu : Nat) (a0 : (List Int)) : Option (Sign × Sign) :=
  (Option.bind (X.s_l1Cur_anySign fu a0 0 0) fun v2_1 => (Option.bind (X.s_l1Cur_anySign fu a0 v2_1.2.1 v2_1.2.2) fun v2_3 => some (v2_1.1, v2_3.1)))
def X.i_GapOfSigns (fu : Nat) (a0 : Sign) (a1 : Sign) : Option (Int × Bool) :=
  (Option.bind (X.i_IsSign fu a0) fun v1_1 => (bif (!v1_1) then some (0, false) else (Option.bind (X.i_IsSign fu a1) fun v1_5 => (bif (!v1_5) then some (0, false) else (Option.bind (X.i_gap a0 a1) fun v3_2 => some (v3_2, true))))))
def X.s_feBoth (fu : Nat) (a0 : Sign) (a1 : Sign) : Option Bool :=
  (Option.bind (X.s_siGood fu a0) fun v1_1 => (bif v1_1 then (Option.bind (X.s_siGood fu a1) fun v1_4 => some v1_4) else some false))
def X.s_GapOfSigns (fu : Nat) (a0 : Sign) (a1 : Sign) : Option (Int × Bool) :=
  (Option.bind (X.s_feBoth fu a0 a1) fun v1_2 => (bif (!v1_2) then some (0, false) else (Option.bind (X.s_cmGap a0 a1) fun v3_2 => some (v3_2, true))))
def X.s_cmRoot (fu : Nat) (a0 : Str) : Option Str :=
  (orEl (loopM (fun n1 => (bif decide (n1 < (List.length a0 : Int)) then (Option.bind (modI (List.length a0 : Int) n1) fun y4_3 => (bif (y4_3 == 0) then (Option.bind (cutS a0 0 n1) fun y4_8 => (Option.bind (divI (List.length a0 : Int) n1) fun y4_12 => (Option.bind (X.s_mvTimes fu y4_8 y4_12) fun v4_13 => (bif (seq v4_13 a0) then (Option.bind (cutS a0 0 n1) fun y5_2 => some (.inr (.inl y5_2))) else some (.inl (wr (n1 + 1))))))) else some (.inl (wr (n1 + 1))))) else some (.inr (.inr ())))) fu 1) (fun r => some r) (fun _ => some a0))
def X.s_cmReduce (fu : Nat) (a0 : Sign) : Option Sign :=
  (Option.bind (X.s_mvAll fu a0.Main.Move) fun v1_3 => (Option.bind (X.s_cmRoot fu v1_3) fun v1_4 => (bif a0.Two then (Option.bind (X.s_mvAll fu a0.Other.Move) fun v3_3 => (Option.bind (X.s_cmRoot fu v3_3) fun v3_4 => some (⟨{ a0.Main with Move := (⟨v1_4, 1⟩ : Move) }, a0.Two, { a0.Other with Move := (⟨v3_4, 1⟩ : Move) }⟩ : Sign))) else some ({ a0 with Main := { a0.Main with Move := (⟨v1_4, 1⟩ : Move) } }))))
def X.s_cmOf (fu : Nat) (a0 : (List Sign)) : Option (List Sign) :=
  (Option.bind (rangeM (fun (j8 : Int) (x9 : Sign) l1 => (bif decide ((wr ((j8 : Int) + 1)) < (List.length a0 : Int)) then (Option.bind (X.s_cmReduce fu x9) fun v6_1 => (Option.bind (appG nSign l1 ([v6_1] : List Sign)) fun y7_3 => some (.inl y7_3))) else (Option.bind (appG nSign l1 ([x9] : List Sign)) fun y7_3 => some (.inl y7_3)))) (fun l1 => some l1) a0 0 ([] : List Sign)) fun l4 => some l4)
def X.s_noHand (fu : Nat) (a0 : Hand) : Option Hand :=
  (Option.bind (X.s_mvNormal fu a0.Move) fun v1_2 => some ({ a0 with Move := v1_2 }))
def X.s_siKind (a0 : Sign) : Option Int :=
  (bif (!a0.Two) then some 0 else (bif (!seq a0.Other.Move.Steps ([] : Str)) then some 1 else (bif (qShape a0.Main.Shape a0.Other.Shape) then some 2 else some 3)))
def X.s_noForm (fu : Nat) (a0 : Sign) : Option Sign :=
  (Option.bind (X.s_noHand fu a0.Main) fun v1_2 => (bif (!a0.Two) then some ({ zSign with Main := v1_2 }) else (Option.bind (X.s_noHand fu a0.Other) fun v5_2 => (Option.bind (X.s_siKind (⟨v1_2, true, v5_2⟩ : Sign)) fun v6_1 => (bif (v6_1 == 1) then (Option.bind (X.s_siText fu v5_2) fun v6_6 => (Option.bind (X.s_siText fu v1_2) fun v6_9 => (bif (slt v6_6 v6_9) then some (⟨v5_2, true, v1_2⟩ : Sign) else some (⟨v1_2, true, v5_2⟩ : Sign)))) else some (⟨v1_2, true, v5_2⟩ : Sign))))))
def X.s_DrawCompoundsAlike (fu : Nat) (a0 : (List Int)) : Option ((List Sign) × (List Sign)) :=
  (Option.bind (X.s_l1Cur_compound fu a0 0 0) fun v2_1 => (Option.bind (X.s_cmGood fu v2_1.1) fun v3_1 => (bif v3_1 then (Option.bind (X.s_l1Cur_one a0 v2_1.2.1 v2_1.2.2 2) fun v3_4 => (bif v3_4.1 then (Option.bind (X.s_cmOf fu v2_1.1) fun v4_1 => (Option.bind (getI v4_1 0) fun y5_2 => (Option.bind (X.s_noForm fu y5_2) fun v5_4 => some (v2_1.1, (List.set v4_1 (Int.toNat 0) v5_4))))) else (Option.bind (X.s_l1Cur_compound fu a0 v3_4.2.1 v3_4.2.2) fun v7_2 => some (v2_1.1, v7_2.1)))) else (Option.bind (X.s_l1Cur_compound fu a0 v2_1.2.1 v2_1.2.2) fun v7_2 => some (v2_1.1, v7_2.1)))))
def X.slices_EqualFunc_i_Sign_i_Sign_i_Sign_i_Sign (a0 : (List Sign)) (a1 : (List Sign)) (a2 : (Sign → Sign → Option Bool)) : Option Bool :=
  (bif ((List.length a0 : Int) != (List.length a1 : Int)) then some false else (orEl (rangeM (fun (j3 : Int) (x4 : Sign) _ => (Option.bind (getI a1 (j3 : Int)) fun y6_2 => (Option.bind (a2 x4 y6_2) fun v7_3 => (bif (!v7_3) then some (.inr (.inl false)) else some (.inl ()))))) (fun _ => some (.inr ())) a0 0 ()) (fun r => some r) (fun _ => some true)))
def X.i_Move_reduced (fu : Nat) (a0 : Move) : Option Move :=
  (Option.bind (X.i_Move_all a0) fun v1_1 => (orEl (loopM (fun n1 => (bif decide (n1 ≤ (List.length v1_1 : Int)) then (Option.bind (modI (List.length v1_1 : Int) n1) fun y5_3 => (bif (y5_3 == 0) then (Option.bind (cutS v1_1 0 n1) fun y5_8 => (Option.bind (divI (List.length v1_1 : Int) n1) fun y5_12 => (Option.bind (X.strings_Repeat y5_8 y5_12) fun v5_13 => (bif (seq v5_13 v1_1) then (Option.bind (cutS v1_1 0 n1) fun y6_2 => some (.inr (.inl (⟨y6_2, 1⟩ : Move)))) else some (.inl (wr (n1 + 1))))))) else some (.inl (wr (n1 + 1))))) else some (.inr (.inr ())))) fu 1) (fun r => some r) (fun _ => some a0)))
def X.i_Sign_reduced (fu : Nat) (a0 : Sign) : Option Sign :=
  (Option.bind (X.i_Move_reduced fu a0.Main.Move) fun v1_3 => (bif a0.Two then (Option.bind (X.i_Move_reduced fu a0.Other.Move) fun v3_3 => some (⟨{ a0.Main with Move := v1_3 }, a0.Two, { a0.Other with Move := v3_3 }⟩ : Sign)) else some ({ a0 with Main := { a0.Main with Move := v1_3 } })))
def X.i_compound (fu : Nat) (a0 : (List Sign)) : Option (List Sign) :=
  (Option.bind (X.slices_Clone_i_Sign_i_Sign a0) fun v1_1 => (Option.bind (rangeN (fun (j8 : Int) l1 => (Option.bind (getI l1 (j8 : Int)) fun y5_4 => (Option.bind (X.i_Sign_reduced fu y5_4) fun v5_6 => some (.inl (List.set l1 (Int.toNat (j8 : Int)) v5_6))))) (fun l1 => some l1) (wr ((List.length v1_1 : Int) - 1)) v1_1) fun l4 => some l4))
def X.i_moveOf (fu : Nat) (a0 : Str) : Option (Move × Bool) :=
  (bif (seq a0 ([] : Str)) then some ({ zMove with Repeat := 1 }, true) else (orEl (loopM (fun n2 => (bif decide (n2 ≥ 1) then (Option.bind (divI (List.length a0 : Int) n2) fun y6_4 => (Option.bind (cutS a0 0 y6_4) fun y6_5 => (bif decide ((List.length y6_5 : Int) ≤ 6) then (Option.bind (X.strings_Repeat y6_5 n2) fun v7_6 => (bif (seq v7_6 a0) then some (.inr (.inl ((⟨y6_5, n2⟩ : Move), true))) else some (.inl (wr (n2 - 1))))) else some (.inl (wr (n2 - 1)))))) else some (.inr (.inr ())))) fu 3) (fun r => some r) (fun _ => some (zMove, false))))
def X.i_Move_normal (fu : Nat) (a0 : Move) : Option Move :=
  (Option.bind (X.i_Move_all a0) fun v1_1 => (Option.bind (X.i_moveOf fu v1_1) fun v1_2 => some v1_2.1))
def X.i_Hand_normal (fu : Nat) (a0 : Hand) : Option Hand :=
  (Option.bind (X.i_Move_normal fu a0.Move) fun v1_2 => some ({ a0 with Move := v1_2 }))
def X.i_Sign_kind (a0 : Sign) : Option Int :=
  (bif (!a0.Two) then some 0 else (Option.bind (X.i_Hand_moves a0.Other) fun v3_2 => (bif v3_2 then some 1 else (bif (qShape a0.Other.Shape a0.Main.Shape) then some 2 else some 3))))
def X.i_Sign_normal (fu : Nat) (a0 : Sign) : Option Sign :=
  (Option.bind (X.i_Hand_normal fu a0.Main) fun v1_2 => (bif (!a0.Two) then some ({ a0 with Main := v1_2 }) else (Option.bind (X.i_Hand_normal fu a0.Other) fun v4_2 => (Option.bind (X.i_Sign_kind (⟨v1_2, a0.Two, v4_2⟩ : Sign)) fun v5_1 => (bif (v5_1 == 1) then (Option.bind (X.i_Hand_text v4_2) fun v5_6 => (Option.bind (X.i_Hand_text v1_2) fun v5_9 => (bif (slt v5_6 v5_9) then some (⟨v4_2, a0.Two, v1_2⟩ : Sign) else some (⟨v1_2, a0.Two, v4_2⟩ : Sign)))) else some (⟨v1_2, a0.Two, v4_2⟩ : Sign))))))
def X.i_CompoundsAlike_1 (fu : Nat) (a0 : Sign) (a1 : Sign) : Option Bool :=
  (Option.bind (X.i_Sign_normal fu a0) fun v1_1 => (Option.bind (X.i_Sign_normal fu a1) fun v1_3 => some (qSign v1_1 v1_3)))
def X.i_CompoundsAlike (fu : Nat) (a0 : (List Sign)) (a1 : (List Sign)) : Option (Bool × Bool) :=
  (Option.bind (X.i_isMade fu a0) fun v1_1 => (bif (!v1_1) then some (false, false) else (Option.bind (X.i_isMade fu a1) fun v1_5 => (bif (!v1_5) then some (false, false) else (Option.bind (X.i_compound fu a0) fun v3_1 => (Option.bind (X.i_compound fu a1) fun v3_3 => (Option.bind (X.slices_EqualFunc_i_Sign_i_Sign_i_Sign_i_Sign v3_1 v3_3 (X.i_CompoundsAlike_1 fu)) fun v3_4 => some (v3_4, true))))))))
def X.s_CompoundOf (fu : Nat) (a0 : (List Sign)) : Option ((List Sign) × Bool) :=
  (Option.bind (X.s_cmGood fu a0) fun v1_1 => (bif (!v1_1) then some (([] : List _), false) else (Option.bind (X.s_cmOf fu a0) fun v3_1 => some (v3_1, true))))
def X.s_CompoundsAlike (fu : Nat) (a0 : (List Sign)) (a1 : (List Sign)) : Option (Bool × Bool) :=
  (Option.bind (X.s_CompoundOf fu a0) fun v1_1 => (Option.bind (X.s_CompoundOf fu a1) fun v2_1 => (bif (!v1_1.2) then some (false, false) else (bif (!v2_1.2) then some (false, false) else (bif ((List.length v1_1.1 : Int) != (List.length v2_1.1 : Int)) then some (false, true) else (orEl (rangeM (fun (j5 : Int) (x6 : Sign) _ => (Option.bind (X.s_noForm fu x6) fun v10_1 => (Option.bind (getI v2_1.1 (j5 : Int)) fun y10_4 => (Option.bind (X.s_noForm fu y10_4) fun v10_6 => (bif (!qSign v10_1 v10_6) then some (.inr (.inl (false, true))) else some (.inl ())))))) (fun _ => some (.inr ())) v1_1.1 0 ()) (fun r => some r) (fun _ => some (true, true))))))))
def X.l_qInts (a0 : (List Int)) (a1 : (List Int)) : Option Bool :=
  (bif ((List.length a0 : Int) != (List.length a1 : Int)) then some false else (orEl (rangeM (fun (j3 : Int) (x4 : Int) _ => (Option.bind (getI a1 (j3 : Int)) fun y6_6 => (bif (x4 != y6_6) then some (.inr (.inl false)) else some (.inl ())))) (fun _ => some (.inr ())) a0 0 ()) (fun r => some r) (fun _ => some true)))
def X.s_StepsOfSign (fu : Nat) (a0 : Sign) : Option (Int × Bool) :=
  (Option.bind (X.s_siGood fu a0) fun v1_1 => (bif (!v1_1) then some (0, false) else (Option.bind (X.s_mvAll fu a0.Main.Move) fun v3_3 => (Option.bind (X.s_mvAll fu a0.Other.Move) fun v3_8 => (Option.bind (X.s_l1Most (List.length v3_3 : Int) (List.length v3_8 : Int)) fun v3_10 => some (v3_10, true))))))
def X.l_FnSmooth (fu : Nat) (a0 : (List Int)) (a1 : (List Int)) : Option Bool :=
  (bif decide ((wr ((List.length a0 : Int) + (List.length a1 : Int))) > 1048576) then some true else (Option.bind (X.s_DrawSmoothestOrder fu a0) fun v3_1 => (Option.bind (X.i_SmoothestOrder fu v3_1) fun v4_1 => (Option.bind (X.s_SmoothestOrder fu v3_1) fun v5_1 => (Option.bind (X.i_CompoundTime fu v3_1) fun v6_1 => (Option.bind (X.s_CompoundTime fu v3_1) fun v7_1 => (Option.bind (X.i_CompoundText fu v3_1) fun v8_1 => (Option.bind (X.s_CompoundText fu v3_1) fun v9_1 => (Option.bind (X.s_DrawGapOfSigns fu a1) fun v10_1 => (Option.bind (X.i_GapOfSigns fu v10_1.1 v10_1.2) fun v11_2 => (Option.bind (X.s_GapOfSigns fu v10_1.1 v10_1.2) fun v12_2 => (Option.bind (X.s_DrawCompoundsAlike fu a1) fun v13_1 => (Option.bind (X.i_CompoundsAlike fu v13_1.1 v13_1.2) fun v14_2 => (Option.bind (X.s_CompoundsAlike fu v13_1.1 v13_1.2) fun v15_2 => (Option.bind (bif (!(v4_1.2.2 == v5_1.2.2)) then some true else (Option.bind (X.l_qInts v4_1.1 v5_1.1) fun v16_6 => (bif (!v16_6) then some true else (bif (v4_1.2.1 != v5_1.2.1) then some true else (bif (!(v6_1.2 == v7_1.2)) then some true else (bif (v6_1.1 != v7_1.1) then some true else (bif (!(v8_1.2 == v9_1.2)) then some true else (bif (!seq v8_1.1 v9_1.1) then some true else (bif (!(v11_2.2 == v12_2.2)) then some true else (bif (v11_2.1 != v12_2.1) then some true else (bif (!(v14_2.2 == v15_2.2)) then some true else (bif (!(v14_2.1 == v15_2.1)) then some true else (bif (!(v6_1.2 == v4_1.2.2)) then some true else some (!(v8_1.2 == v4_1.2.2))))))))))))))) fun b2 => (bif b2 then some false else (orEl (bif v4_1.2.2 then (orEl (rangeM (fun (j26 : Int) (x27 : Sign) ⟨n19, n20, n21⟩ => (Option.bind (X.s_StepsOfSign fu x27) fun v23_1 => (bif (!v23_1.2) then some (.inr (.inl false)) else (bif decide ((j26 : Int) > 0) then (Option.bind (getI v3_1 (wr ((j26 : Int) - 1))) fun y28_3 => (Option.bind (X.i_GapOfSigns fu y28_3 x27) fun v28_6 => (Option.bind (getI v5_1.1 (wr ((j26 : Int) - 1))) fun y29_4 => (Option.bind (getI v3_1 y29_4) fun y29_6 => (Option.bind (getI v5_1.1 (j26 : Int)) fun y29_11 => (Option.bind (getI v3_1 y29_11) fun y29_13 => (Option.bind (X.i_GapOfSigns fu y29_6 y29_13) fun v29_15 => (bif (!v28_6.2) then some (.inr (.inl false)) else (bif (!v29_15.2) then some (.inr (.inl false)) else some (.inl ((wr (n19 + v29_15.1)), (wr (n20 + v28_6.1)), (wr (n21 + (wr (v23_1.1 + 1))))))))))))))) else some (.inl (n19, n20, (wr (n21 + (wr (v23_1.1 + 1)))))))))) (fun ⟨n19, n20, n21⟩ => some (.inr (n19, n20, n21))) v3_1 0 (0, 0, 0)) (fun r => some (.inl r)) (fun ⟨n22, n23, n24⟩ => (bif (n22 != v5_1.2.1) then some (.inl false) else (bif decide (n23 < v5_1.2.1) then some (.inl false) else (bif (v7_1.1 != (wr (n24 + n23))) then some (.inl false) else some (.inr ())))))) else some (.inr ())) (fun r => some r) (fun _ => (orEl (bif v11_2.2 then (Option.bind (X.i_GapOfSigns fu v10_1.2 v10_1.1) fun v38_2 => (bif (!v38_2.2) then some (.inl false) else (bif (v38_2.1 != v12_2.1) then some (.inl false) else some (.inr ())))) else some (.inr ())) (fun r => some r) (fun _ => (bif v14_2.2 then (Option.bind (X.i_CompoundsAlike fu v13_1.2 v13_1.1) fun v42_2 => (bif v42_2.2 then some (v42_2.1 == v15_2.1) else some false)) else some true)))))))))))))))))))))
end Go.Proofs.XC
