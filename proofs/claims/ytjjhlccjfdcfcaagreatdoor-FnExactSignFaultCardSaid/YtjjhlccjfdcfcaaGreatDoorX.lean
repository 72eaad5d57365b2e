/- What each function of the given program reckons, as plain Lean functions (none: it would panic there, or a bound is passed). By AI agents; no person has read it. -/
import Derived.Test.YtjjhlccjfdcfcaaGreatDoorCore2
import Derived.Lib.Split
import Derived.Lib.AtoiAll
import Derived.Lib.Join
import Derived.Lib.ItoaNum
import Derived.Lib.Repeat
import Derived.Lib.Bytealg
set_option linter.unusedVariables false
set_option linter.unusedSimpArgs false
set_option maxRecDepth 100000
set_option maxHeartbeats 40000000
namespace Go.Proofs.XC
open Go Go.RowKit
structure Shape where
  Thumb : Int
  Index : Int
  Middle : Int
  Ring : Int
  Little : Int
  Spread : Bool
deriving DecidableEq
def eShape (s : Shape) : List Value := [.int .i64 s.Thumb, .int .i64 s.Index, .int .i64 s.Middle, .int .i64 s.Ring, .int .i64 s.Little, .bool s.Spread]
def zShape : Shape := ⟨0, 0, 0, 0, 0, false⟩
def qShape (a b : Shape) : Bool := ((a.Thumb == b.Thumb) && ((a.Index == b.Index) && ((a.Middle == b.Middle) && ((a.Ring == b.Ring) && ((a.Little == b.Little) && ((a.Spread == b.Spread) && true))))))
def nShape : Enc Shape := ⟨eShape, 6, 48, fun _ => rfl, fun x => List.all_eq_true.1 (rfl : (eShape x).all (·.oneCell') = true), by decide⟩
structure Orient where
  Palm : Int
  Fingers : Int
deriving DecidableEq
def eOrient (s : Orient) : List Value := [.int .i64 s.Palm, .int .i64 s.Fingers]
def zOrient : Orient := ⟨0, 0⟩
def qOrient (a b : Orient) : Bool := ((a.Palm == b.Palm) && ((a.Fingers == b.Fingers) && true))
def nOrient : Enc Orient := ⟨eOrient, 2, 16, fun _ => rfl, fun x => List.all_eq_true.1 (rfl : (eOrient x).all (·.oneCell') = true), by decide⟩
structure Place where
  Region : Int
  Side : Int
  Contact : Bool
deriving DecidableEq
def ePlace (s : Place) : List Value := [.int .i64 s.Region, .int .i64 s.Side, .bool s.Contact]
def zPlace : Place := ⟨0, 0, false⟩
def qPlace (a b : Place) : Bool := ((a.Region == b.Region) && ((a.Side == b.Side) && ((a.Contact == b.Contact) && true)))
def nPlace : Enc Place := ⟨ePlace, 3, 24, fun _ => rfl, fun x => List.all_eq_true.1 (rfl : (ePlace x).all (·.oneCell') = true), by decide⟩
structure Move where
  Steps : Str
  Repeat : Int
deriving DecidableEq
def eMove (s : Move) : List Value := [.string (bs s.Steps), .int .i64 s.Repeat]
def zMove : Move := ⟨([] : Str), 0⟩
def qMove (a b : Move) : Bool := ((seq a.Steps b.Steps) && ((a.Repeat == b.Repeat) && true))
def nMove : Enc Move := ⟨eMove, 2, 24, fun _ => rfl, fun x => List.all_eq_true.1 (rfl : (eMove x).all (·.oneCell') = true), by decide⟩
structure Hand where
  Shape : Shape
  Orient : Orient
  Place : Place
  Move : Move
deriving DecidableEq
def eHand (s : Hand) : List Value := eShape s.Shape ++ (eOrient s.Orient ++ (ePlace s.Place ++ (eMove s.Move)))
def zHand : Hand := ⟨zShape, zOrient, zPlace, zMove⟩
def qHand (a b : Hand) : Bool := ((qShape a.Shape b.Shape) && ((qOrient a.Orient b.Orient) && ((qPlace a.Place b.Place) && ((qMove a.Move b.Move) && true))))
def nHand : Enc Hand := ⟨eHand, 13, 112, fun _ => rfl, fun x => List.all_eq_true.1 (rfl : (eHand x).all (·.oneCell') = true), by decide⟩
structure Sign where
  Main : Hand
  Two : Bool
  Other : Hand
deriving DecidableEq
def eSign (s : Sign) : List Value := eHand s.Main ++ ([.bool s.Two] ++ (eHand s.Other))
def zSign : Sign := ⟨zHand, false, zHand⟩
def qSign (a b : Sign) : Bool := ((qHand a.Main b.Main) && ((a.Two == b.Two) && ((qHand a.Other b.Other) && true)))
def nSign : Enc Sign := ⟨eSign, 27, 232, fun _ => rfl, fun x => List.all_eq_true.1 (rfl : (eSign x).all (·.oneCell') = true), by decide⟩
def okShape (s : Shape) : Prop := okI s.Thumb ∧ okI s.Index ∧ okI s.Middle ∧ okI s.Ring ∧ okI s.Little ∧ okB s.Spread
def okOrient (s : Orient) : Prop := okI s.Palm ∧ okI s.Fingers
def okPlace (s : Place) : Prop := okI s.Region ∧ okI s.Side ∧ okB s.Contact
def okMove (s : Move) : Prop := okS s.Steps ∧ okI s.Repeat
def okHand (s : Hand) : Prop := okShape s.Shape ∧ okOrient s.Orient ∧ okPlace s.Place ∧ okMove s.Move
def okSign (s : Sign) : Prop := okHand s.Main ∧ okB s.Two ∧ okHand s.Other
def X.s_paGiven (a0 : Str) : Option Bool :=
  some (decide ((List.length a0 : Int) ≤ 200))
def X.s_l1Split (fu : Nat) (a0 : Str) (a1 : Int) : Option (List Str) :=
  (Option.bind (loopM (fun ⟨n1, n2, l3⟩ => (bif decide (n2 < (List.length a0 : Int)) then (Option.bind (getB a0 n2) fun y6_2 => (bif (y6_2 == a1) then (Option.bind (cutS a0 n1 n2) fun y7_4 => (Option.bind (appG eS l3 ([y7_4] : List Str)) fun y7_6 => some (.inl ((wr (n2 + 1)), (wr (n2 + 1)), y7_6)))) else some (.inl (n1, (wr (n2 + 1)), l3)))) else some (.inr (n1, l3)))) fu (0, 0, ([] : List Str))) fun ⟨n6, l7⟩ => (Option.bind (cutS a0 n6 (List.length a0 : Int)) fun y9_3 => (Option.bind (appG eS l7 ([y9_3] : List Str)) fun y9_5 => some y9_5)))
def X.s_l1In (a0 : Int) (a1 : Int) (a2 : Int) : Option Bool :=
  (bif decide (a0 ≥ a1) then some (decide (a0 ≤ a2)) else some false)
def X.s_shFingers (a0 : Shape) : Option (List Int) :=
  some ([a0.Index, a0.Middle, a0.Ring, a0.Little] : List Int)
def X.s_l1All (a0 : (List Int)) (a1 : Int) (a2 : Int) : Option Bool :=
  (orEl (rangeM (fun (j2 : Int) (x3 : Int) _ => (Option.bind (X.s_l1In x3 a1 a2) fun v4_3 => (bif (!v4_3) then some (.inr (.inl false)) else some (.inl ())))) (fun _ => some (.inr ())) a0 0 ()) (fun r => some r) (fun _ => some true))
def X.s_shWide (fu : Nat) (a0 : Shape) : Option Bool :=
  (Option.bind (X.s_shFingers a0) fun v1_1 => (orEl (loopM (fun n1 => (bif decide (n1 < 4) then (Option.bind (getI v1_1 (wr (n1 - 1))) fun y5_3 => (bif (y5_3 == 0) then (Option.bind (getI v1_1 n1) fun y5_9 => (bif (y5_9 == 0) then some (.inr (.inl true)) else some (.inl (wr (n1 + 1))))) else some (.inl (wr (n1 + 1))))) else some (.inr (.inr ())))) fu 1) (fun r => some r) (fun _ => some false)))
def X.s_shGood (fu : Nat) (a0 : Shape) : Option Bool :=
  (Option.bind (X.s_l1In a0.Thumb 0 2) fun v1_2 => (bif v1_2 then (Option.bind (X.s_shFingers a0) fun v1_5 => (Option.bind (X.s_l1All v1_5 0 2) fun v1_6 => (bif v1_6 then (bif (!a0.Spread) then some true else (Option.bind (X.s_shWide fu a0) fun v1_14 => some v1_14)) else some false))) else some false))
def X.s_shParse (fu : Nat) (a0 : Str) : Option (Shape × Bool) :=
  (Option.bind (X.s_l1In (List.length a0 : Int) 5 6) fun v1_2 => (bif (!v1_2) then some (zShape, false) else (bif ((List.length a0 : Int) == 6) then (Option.bind (getB a0 5) fun y1_10 => (bif (y1_10 != 115) then some (zShape, false) else (Option.bind (loopM (fun ⟨n4, l5⟩ => (bif decide (n4 < 5) then (Option.bind (getB a0 n4) fun y7_3 => (Option.bind (appG (eI .i64) l5 ([(wr ((wr y7_3) - 48))] : List Int)) fun y7_7 => some (.inl ((wr (n4 + 1)), y7_7)))) else some (.inr l5))) fu (0, ([] : List Int))) fun l8 => (Option.bind (getI l8 0) fun y8_1 => (Option.bind (getI l8 1) fun y8_4 => (Option.bind (getI l8 2) fun y8_7 => (Option.bind (getI l8 3) fun y8_10 => (Option.bind (getI l8 4) fun y8_13 => (Option.bind (X.s_shGood fu (⟨y8_1, y8_4, y8_7, y8_10, y8_13, ((List.length a0 : Int) == 6)⟩ : Shape)) fun v9_1 => (bif (!v9_1) then some (zShape, false) else some ((⟨y8_1, y8_4, y8_7, y8_10, y8_13, ((List.length a0 : Int) == 6)⟩ : Shape), true))))))))))) else (Option.bind (loopM (fun ⟨n14, l15⟩ => (bif decide (n14 < 5) then (Option.bind (getB a0 n14) fun y7_3 => (Option.bind (appG (eI .i64) l15 ([(wr ((wr y7_3) - 48))] : List Int)) fun y7_7 => some (.inl ((wr (n14 + 1)), y7_7)))) else some (.inr l15))) fu (0, ([] : List Int))) fun l18 => (Option.bind (getI l18 0) fun y8_1 => (Option.bind (getI l18 1) fun y8_4 => (Option.bind (getI l18 2) fun y8_7 => (Option.bind (getI l18 3) fun y8_10 => (Option.bind (getI l18 4) fun y8_13 => (Option.bind (X.s_shGood fu (⟨y8_1, y8_4, y8_7, y8_10, y8_13, ((List.length a0 : Int) == 6)⟩ : Shape)) fun v9_1 => (bif (!v9_1) then some (zShape, false) else some ((⟨y8_1, y8_4, y8_7, y8_10, y8_13, ((List.length a0 : Int) == 6)⟩ : Shape), true))))))))))))
def X.s_orDir (a0 : Int) : Option Bool :=
  (Option.bind (X.s_l1In a0 0 5) fun v1_1 => some v1_1)
def X.s_orOpposite (a0 : Int) : Option Int :=
  (bif ((Int.tmod a0 2) == 0) then some (wr (a0 + 1)) else some (wr (a0 - 1)))
def X.s_orGood (a0 : Orient) : Option Bool :=
  (Option.bind (X.s_orDir a0.Palm) fun v1_2 => (bif v1_2 then (Option.bind (X.s_orDir a0.Fingers) fun v1_6 => (bif v1_6 then (bif (a0.Palm != a0.Fingers) then (Option.bind (X.s_orOpposite a0.Fingers) fun v1_20 => some (a0.Palm != v1_20)) else some false) else some false)) else some false))
def X.s_orLetter (fu : Nat) (a0 : Int) : Option Int :=
  (orEl (loopM (fun n1 => (bif decide (n1 < 6) then (Option.bind (getB ([117, 100, 108, 114, 102, 98] : Str) n1) fun y4_1 => (bif (y4_1 == a0) then some (.inr (.inl n1)) else some (.inl (wr (n1 + 1))))) else some (.inr (.inr ())))) fu 0) (fun r => some r) (fun _ => some (-1)))
def X.s_orParse (fu : Nat) (a0 : Str) : Option (Orient × Bool) :=
  (bif ((List.length a0 : Int) != 2) then some (zOrient, false) else (Option.bind (getB a0 0) fun y3_1 => (Option.bind (X.s_orLetter fu y3_1) fun v3_2 => (Option.bind (getB a0 1) fun y3_4 => (Option.bind (X.s_orLetter fu y3_4) fun v3_5 => (Option.bind (X.s_orGood (⟨v3_2, v3_5⟩ : Orient)) fun v4_1 => (bif (!v4_1) then some (zOrient, false) else some ((⟨v3_2, v3_5⟩ : Orient), true))))))))
def X.s_plNames : Option (List Str) :=
  some ([([115, 112, 97, 99, 101] : Str), ([104, 101, 97, 100] : Str), ([101, 121, 101] : Str), ([99, 104, 101, 101, 107] : Str), ([109, 111, 117, 116, 104] : Str), ([99, 104, 105, 110] : Str), ([110, 101, 99, 107] : Str), ([99, 104, 101, 115, 116] : Str), ([119, 97, 105, 115, 116] : Str), ([104, 105, 112] : Str)] : List Str)
def X.s_plText (a0 : Place) : Option Str :=
  (Option.bind X.s_plNames fun v1_0 => (Option.bind (getI v1_0 a0.Region) fun y1_3 => (bif (a0.Side == (-1)) then (Option.bind (catS y1_3 ([60] : Str)) fun y4_1 => (bif a0.Contact then (Option.bind (catS y4_1 ([42] : Str)) fun y8_1 => some y8_1) else some y4_1)) else (bif (a0.Side == 1) then (Option.bind (catS y1_3 ([62] : Str)) fun y6_1 => (bif a0.Contact then (Option.bind (catS y6_1 ([42] : Str)) fun y8_1 => some y8_1) else some y6_1)) else (bif a0.Contact then (Option.bind (catS y1_3 ([42] : Str)) fun y8_1 => some y8_1) else some y1_3)))))
def X.s_plGood (a0 : Place) : Option Bool :=
  (Option.bind (X.s_l1In a0.Region 0 9) fun v1_2 => (bif v1_2 then (Option.bind (X.s_l1In a0.Side (-1) 1) fun v1_6 => (bif v1_6 then (bif decide (a0.Region > 0) then some true else some (!a0.Contact)) else some false)) else some false))
def X.s_plAll (fu : Nat) : Option (List Place) :=
  (Option.bind (loopM (fun ⟨n1, l2⟩ => (bif decide (n1 < 10) then (Option.bind (loopM (fun ⟨n10, l11⟩ => (bif decide (n10 ≤ 1) then (Option.bind (rangeM (fun (j26 : Int) (x27 : Bool) l19 => (Option.bind (X.s_plGood (⟨n1, n10, x27⟩ : Place)) fun v12_1 => (bif v12_1 then (Option.bind (appG nPlace l19 ([(⟨n1, n10, x27⟩ : Place)] : List Place)) fun y13_3 => some (.inl y13_3)) else some (.inl l19)))) (fun l19 => some l19) ([false, true] : List Bool) 0 l11) fun l22 => some (.inl ((wr (n10 + 1)), l22))) else some (.inr l11))) fu ((-1), l2)) fun l14 => some (.inl ((wr (n1 + 1)), l14))) else some (.inr l2))) fu (0, ([] : List Place))) fun l5 => some l5)
def X.s_plParse (fu : Nat) (a0 : Str) : Option (Place × Bool) :=
  (Option.bind (X.s_plAll fu) fun v1_0 => (orEl (rangeM (fun (j2 : Int) (x3 : Place) _ => (Option.bind (X.s_plText x3) fun v4_1 => (bif (seq v4_1 a0) then some (.inr (.inl (x3, true))) else some (.inl ())))) (fun _ => some (.inr ())) v1_0 0 ()) (fun r => some r) (fun _ => some (zPlace, false))))
def X.s_l1Num : Nat → Int → Option Str
  | 0, _ => none
  | fu + 1, a0 => (bif decide (a0 < 10) then some (strOf ([(wk .u8 (wr (48 + a0)))] : List Int)) else (Option.bind (X.s_l1Num fu (wr (Int.tdiv a0 10))) fun v3_2 => (Option.bind (catS v3_2 (strOf ([(wk .u8 (wr (48 + (Int.tmod a0 10))))] : List Int))) fun y3_9 => some y3_9)))
def X.s_mvText (fu : Nat) (a0 : Move) : Option Str :=
  (bif (seq a0.Steps ([] : Str)) then some ([45] : Str) else (bif decide (a0.Repeat > 1) then (Option.bind (catS a0.Steps ([42] : Str)) fun y4_2 => (Option.bind (X.s_l1Num fu a0.Repeat) fun v4_5 => (Option.bind (catS y4_2 v4_5) fun y4_6 => some y4_6))) else some a0.Steps))
def X.s_mvLetters : Option Str :=
  some ([117, 100, 108, 114, 102, 98] : Str)
def X.s_mvIndex (fu : Nat) (a0 : Int) : Option Int :=
  (orEl (loopM (fun n1 => (Option.bind X.s_mvLetters fun v2_1 => (bif decide (n1 < (List.length v2_1 : Int)) then (Option.bind X.s_mvLetters fun v4_0 => (Option.bind (getB v4_0 n1) fun y4_2 => (bif (y4_2 == a0) then some (.inr (.inl n1)) else some (.inl (wr (n1 + 1)))))) else some (.inr (.inr ()))))) fu 0) (fun r => some r) (fun _ => some (-1)))
def X.s_mvSteps (fu : Nat) (a0 : Str) : Option Bool :=
  (orEl (loopM (fun n1 => (bif decide (n1 < (List.length a0 : Int)) then (Option.bind (getB a0 n1) fun y4_2 => (Option.bind (X.s_mvIndex fu y4_2) fun v4_3 => (bif decide (v4_3 < 0) then some (.inr (.inl false)) else some (.inl (wr (n1 + 1)))))) else some (.inr (.inr ())))) fu 0) (fun r => some r) (fun _ => some true))
def X.s_mvGood (fu : Nat) (a0 : Move) : Option Bool :=
  (bif decide ((List.length a0.Steps : Int) ≤ 6) then (Option.bind (X.s_mvSteps fu a0.Steps) fun v1_7 => (bif v1_7 then (Option.bind (X.s_l1In a0.Repeat 1 3) fun v1_12 => (bif v1_12 then (bif (!seq a0.Steps ([] : Str)) then some true else some (a0.Repeat == 1)) else some false)) else some false)) else some false)
def X.s_l1Read (fu : Nat) (a0 : Str) : Option Int :=
  (Option.bind (X.s_l1In (List.length a0 : Int) 1 6) fun v1_2 => (bif (!v1_2) then some (-1) else (Option.bind (getB a0 0) fun y1_6 => (bif (y1_6 == 48) then (bif decide ((List.length a0 : Int) > 1) then some (-1) else (orEl (loopM (fun ⟨n4, n5⟩ => (bif decide (n5 < (List.length a0 : Int)) then (Option.bind (getB a0 n5) fun y7_2 => (bif decide (y7_2 < 48) then some (.inr (.inl (-1))) else (bif decide (y7_2 > 57) then some (.inr (.inl (-1))) else some (.inl ((wr ((wr (10 * n4)) + (wr (wk .u8 (y7_2 - 48))))), (wr (n5 + 1))))))) else some (.inr (.inr n4)))) fu (0, 0)) (fun r => some r) (fun n6 => some n6))) else (orEl (loopM (fun ⟨n11, n12⟩ => (bif decide (n12 < (List.length a0 : Int)) then (Option.bind (getB a0 n12) fun y7_2 => (bif decide (y7_2 < 48) then some (.inr (.inl (-1))) else (bif decide (y7_2 > 57) then some (.inr (.inl (-1))) else some (.inl ((wr ((wr (10 * n11)) + (wr (wk .u8 (y7_2 - 48))))), (wr (n12 + 1))))))) else some (.inr (.inr n11)))) fu (0, 0)) (fun r => some r) (fun n13 => some n13))))))
def X.s_mvParse (fu : Nat) (a0 : Str) : Option (Move × Bool) :=
  (Option.bind (X.s_l1Split fu a0 42) fun v1_1 => (Option.bind (getI v1_1 0) fun y2_1 => (bif (seq a0 ([45] : Str)) then (bif ((List.length v1_1 : Int) == 2) then (Option.bind (getI v1_1 1) fun y6_1 => (Option.bind (X.s_l1Read fu y6_1) fun v6_3 => (bif decide ((List.length v1_1 : Int) > 2) then some (zMove, false) else (Option.bind (X.s_mvGood fu (⟨([] : Str), v6_3⟩ : Move)) fun v7_5 => (bif (!v7_5) then some (zMove, false) else (Option.bind (X.s_mvText fu (⟨([] : Str), v6_3⟩ : Move)) fun v7_10 => (bif (!seq v7_10 a0) then some (zMove, false) else some ((⟨([] : Str), v6_3⟩ : Move), true)))))))) else (bif decide ((List.length v1_1 : Int) > 2) then some (zMove, false) else (Option.bind (X.s_mvGood fu (⟨([] : Str), 1⟩ : Move)) fun v7_5 => (bif (!v7_5) then some (zMove, false) else (Option.bind (X.s_mvText fu (⟨([] : Str), 1⟩ : Move)) fun v7_10 => (bif (!seq v7_10 a0) then some (zMove, false) else some ((⟨([] : Str), 1⟩ : Move), true))))))) else (bif ((List.length v1_1 : Int) == 2) then (Option.bind (getI v1_1 1) fun y6_1 => (Option.bind (X.s_l1Read fu y6_1) fun v6_3 => (bif decide ((List.length v1_1 : Int) > 2) then some (zMove, false) else (Option.bind (X.s_mvGood fu (⟨y2_1, v6_3⟩ : Move)) fun v7_5 => (bif (!v7_5) then some (zMove, false) else (Option.bind (X.s_mvText fu (⟨y2_1, v6_3⟩ : Move)) fun v7_10 => (bif (!seq v7_10 a0) then some (zMove, false) else some ((⟨y2_1, v6_3⟩ : Move), true)))))))) else (bif decide ((List.length v1_1 : Int) > 2) then some (zMove, false) else (Option.bind (X.s_mvGood fu (⟨y2_1, 1⟩ : Move)) fun v7_5 => (bif (!v7_5) then some (zMove, false) else (Option.bind (X.s_mvText fu (⟨y2_1, 1⟩ : Move)) fun v7_10 => (bif (!seq v7_10 a0) then some (zMove, false) else some ((⟨y2_1, 1⟩ : Move), true))))))))))
def X.s_paHand (fu : Nat) (a0 : Str) : Option (Hand × Int × Int) :=
  (Option.bind (X.s_l1Split fu a0 47) fun v1_1 => (bif ((List.length v1_1 : Int) != 4) then some (zHand, 2, 0) else (Option.bind (getI v1_1 0) fun y5_1 => (Option.bind (X.s_shParse fu y5_1) fun v5_3 => (bif (!v5_3.2) then some (zHand, 3, 0) else (Option.bind (getI v1_1 1) fun y9_1 => (Option.bind (X.s_orParse fu y9_1) fun v9_3 => (bif (!v9_3.2) then some (zHand, 4, (wr (0 + (wr ((List.length y5_1 : Int) + 1))))) else (Option.bind (getI v1_1 2) fun y13_1 => (Option.bind (X.s_plParse fu y13_1) fun v13_3 => (bif (!v13_3.2) then some (zHand, 5, (wr ((wr (0 + (wr ((List.length y5_1 : Int) + 1)))) + (wr ((List.length y9_1 : Int) + 1))))) else (Option.bind (getI v1_1 3) fun y17_1 => (Option.bind (X.s_mvParse fu y17_1) fun v17_3 => (bif (!v17_3.2) then some (zHand, 6, (wr ((wr ((wr (0 + (wr ((List.length y5_1 : Int) + 1)))) + (wr ((List.length y9_1 : Int) + 1)))) + (wr ((List.length y13_1 : Int) + 1))))) else some ((⟨v5_3.1, v9_3.1, v13_3.1, v17_3.1⟩ : Hand), 0, 0)))))))))))))))
def X.s_mvTimes (fu : Nat) (a0 : Str) (a1 : Int) : Option Str :=
  (Option.bind (loopM (fun ⟨n1, t2⟩ => (bif decide (n1 > 0) then (Option.bind (catS t2 a0) fun y4_2 => some (.inl ((wr (n1 - 1)), y4_2))) else some (.inr t2))) fu (a1, ([] : Str))) fun t3 => some t3)
def X.s_mvAll (fu : Nat) (a0 : Move) : Option Str :=
  (Option.bind (X.s_mvTimes fu a0.Steps a0.Repeat) fun v1_4 => some v1_4)
def X.s_siPlain (fu : Nat) : Option (List Shape) :=
  (Option.bind (rangeM (fun (j8 : Int) (x9 : Str) l1 => (Option.bind (X.s_shParse fu x9) fun v5_1 => (Option.bind (appG nShape l1 ([v5_1.1] : List Shape)) fun y6_3 => some (.inl y6_3)))) (fun l1 => some l1) ([([48, 48, 48, 48, 48] : Str), ([48, 48, 48, 48, 48, 115] : Str), ([50, 50, 50, 50, 50] : Str), ([49, 48, 48, 48, 48] : Str), ([49, 48, 50, 50, 50] : Str), ([48, 48, 50, 50, 50] : Str)] : List Str) 0 ([] : List Shape)) fun l4 => some l4)
def X.s_orSwap (a0 : Int) : Option Int :=
  (bif (a0 == 2) then (Option.bind (X.s_orOpposite a0) fun v2_1 => some v2_1) else (bif (a0 == 3) then (Option.bind (X.s_orOpposite a0) fun v2_1 => some v2_1) else some a0))
def X.s_orMirror (a0 : Orient) : Option Orient :=
  (Option.bind (X.s_orSwap a0.Palm) fun v1_2 => (Option.bind (X.s_orSwap a0.Fingers) fun v1_5 => some (⟨v1_2, v1_5⟩ : Orient)))
def X.s_mvMirror (fu : Nat) (a0 : Move) : Option Move :=
  (Option.bind (loopM (fun ⟨t1, n2⟩ => (bif decide (n2 < (List.length a0.Steps : Int)) then (Option.bind (getB a0.Steps n2) fun y5_3 => (bif (y5_3 == 108) then (Option.bind (catS t1 ([114] : Str)) fun y8_1 => some (.inl (y8_1, (wr (n2 + 1))))) else (bif (y5_3 == 114) then (Option.bind (catS t1 ([108] : Str)) fun y10_1 => some (.inl (y10_1, (wr (n2 + 1))))) else (Option.bind (cutS a0.Steps n2 (wr (n2 + 1))) fun y6_6 => (Option.bind (catS t1 y6_6) fun y6_7 => some (.inl (y6_7, (wr (n2 + 1))))))))) else some (.inr t1))) fu (([] : Str), 0)) fun t3 => some ({ a0 with Steps := t3 }))
def X.s_siBroken (fu : Nat) (a0 : Hand) (a1 : Hand) : Option Int :=
  (bif (seq a1.Move.Steps ([] : Str)) then (bif (qShape a0.Shape a1.Shape) then some 0 else (Option.bind (X.s_siPlain fu) fun v4_0 => (orEl (rangeM (fun (j4 : Int) (x5 : Shape) _ => (bif (qShape x5 a1.Shape) then some (.inr (.inl 0)) else some (.inl ()))) (fun _ => some (.inr ())) v4_0 0 ()) (fun r => some r) (fun _ => some 4)))) else (bif (seq a0.Move.Steps ([] : Str)) then some 3 else (bif (!qShape a0.Shape a1.Shape) then some 1 else (bif (!qOrient a0.Orient a1.Orient) then (Option.bind (X.s_orMirror a1.Orient) fun v15_10 => (bif (!qOrient a0.Orient v15_10) then some 2 else (Option.bind (X.s_mvAll fu a0.Move) fun v17_2 => (Option.bind (X.s_mvAll fu a1.Move) fun v17_5 => (bif (!seq v17_2 v17_5) then (Option.bind (X.s_mvMirror fu a0.Move) fun v17_10 => (Option.bind (X.s_mvAll fu v17_10) fun v17_11 => (Option.bind (X.s_mvAll fu a1.Move) fun v17_14 => (bif (!seq v17_11 v17_14) then some 3 else some 0)))) else some 0))))) else (Option.bind (X.s_mvAll fu a0.Move) fun v17_2 => (Option.bind (X.s_mvAll fu a1.Move) fun v17_5 => (bif (!seq v17_2 v17_5) then (Option.bind (X.s_mvMirror fu a0.Move) fun v17_10 => (Option.bind (X.s_mvAll fu v17_10) fun v17_11 => (Option.bind (X.s_mvAll fu a1.Move) fun v17_14 => (bif (!seq v17_11 v17_14) then some 3 else some 0)))) else some 0)))))))
def X.s_paParse (fu : Nat) (a0 : Str) : Option (Sign × Int × Int) :=
  (Option.bind (X.s_l1Split fu a0 43) fun v1_1 => (bif decide ((List.length v1_1 : Int) > 2) then some (zSign, 1, 0) else (Option.bind (getI v1_1 0) fun y4_1 => (Option.bind (X.s_paHand fu y4_1) fun v4_3 => (bif (v4_3.2.1 != 0) then some (zSign, v4_3.2.1, v4_3.2.2) else (bif ((List.length v1_1 : Int) == 1) then some ({ zSign with Main := v4_3.1 }, 0, 0) else (Option.bind (getI v1_1 1) fun y10_1 => (Option.bind (X.s_paHand fu y10_1) fun v10_3 => (bif (v10_3.2.1 != 0) then some (zSign, v10_3.2.1, (wr ((wr ((List.length y4_1 : Int) + 1)) + v10_3.2.2))) else (Option.bind (X.s_siBroken fu v4_3.1 v10_3.1) fun v13_2 => (bif (v13_2 != 0) then some (zSign, 7, (wr ((List.length y4_1 : Int) + 1))) else some ((⟨v4_3.1, true, v10_3.1⟩ : Sign), 0, 0))))))))))))
def X.s_SignFault (fu : Nat) (a0 : Str) : Option (Int × Int × Bool) :=
  (Option.bind (X.s_paGiven a0) fun v1_1 => (bif (!v1_1) then some (0, 0, false) else (Option.bind (X.s_paParse fu a0) fun v3_1 => some (v3_1.2.1, v3_1.2.2, true))))
def X.strings_Count (a0 a1 : Str) : Option Int := bif decide (List.length a1 = 1) then some ((Lib.countByte a0 (a1.headD 0) : Nat) : Int) else none
def X.internal_stringslite_Index (a0 a1 : Str) : Option Int := bif decide (List.length a1 = 1) then some (Lib.indexByte a0 (a1.headD 0)) else none
def X.internal_stringslite_Cut (a0 : Str) (a1 : Str) : Option (Str × Str × Bool) :=
  (Option.bind (X.internal_stringslite_Index a0 a1) fun v1_2 => (bif decide (v1_2 ≥ 0) then (Option.bind (cutS a0 0 v1_2) fun y3_2 => (Option.bind (cutS a0 (wr (v1_2 + (List.length a1 : Int))) (List.length a0 : Int)) fun y3_8 => some (y3_2, y3_8, true))) else some (a0, ([] : Str), false)))
def X.strings_Cut (a0 : Str) (a1 : Str) : Option (Str × Str × Bool) :=
  (Option.bind (X.internal_stringslite_Cut a0 a1) fun v1_2 => some (v1_2.1, v1_2.2.1, v1_2.2.2))
def X.strings_genSplit (a0 a1 : Str) (a2 a3 : Int) : Option (List Str) :=
  bif decide (List.length a1 = 1) && (decide (a2 = 0) && (decide (a3 = -1) && decide (List.length a0 < 4294967281))) then some (Lib.split a0 a1) else none
def X.strings_Split (a0 : Str) (a1 : Str) : Option (List Str) :=
  (Option.bind (X.strings_genSplit a0 a1 0 (-1)) fun v1_2 => some v1_2)
def X.strconv_Itoa (a0 : Int) : Option Str := if 0 ≤ a0 ∧ a0 < 100 then some (Lib.decDigits a0.toNat) else none
def X.i_Shape_bends (a0 : Shape) : Option (List Int) :=
  some ([a0.Index, a0.Middle, a0.Ring, a0.Little] : List Int)
def X.i_Shape_text (a0 : Shape) : Option Str :=
  (Option.bind (X.strconv_Itoa a0.Thumb) fun v1_2 => (Option.bind (X.i_Shape_bends a0) fun v2_1 => (Option.bind (rangeM (fun (j4 : Int) (x5 : Int) t1 => (Option.bind (X.strconv_Itoa x5) fun v5_2 => (Option.bind (catS t1 v5_2) fun y5_3 => some (.inl y5_3)))) (fun t1 => some t1) v2_1 0 v1_2) fun t2 => (bif a0.Spread then (Option.bind (catS t2 ([115] : Str)) fun y8_1 => some y8_1) else some t2))))
def X.slices_IndexFunc_int_int (a0 : (List Int)) (a1 : (Int → Option Bool)) : Option Int :=
  (orEl (rangeM (fun (j2 : Int) (x3 : Int) _ => (Option.bind (a1 x3) fun v4_5 => (bif v4_5 then some (.inr (.inl (j2 : Int))) else some (.inl ())))) (fun _ => some (.inr ())) a0 0 ()) (fun r => some r) (fun _ => some (-1)))
def X.slices_ContainsFunc_int_int (a0 : (List Int)) (a1 : (Int → Option Bool)) : Option Bool :=
  (Option.bind (X.slices_IndexFunc_int_int a0 a1) fun v1_2 => some (decide (v1_2 ≥ 0)))
def X.i_within (a0 : Int) (a1 : Int) (a2 : Int) : Option Bool :=
  (bif decide (a0 ≥ a1) then some (decide (a0 ≤ a2)) else some false)
def X.i_allWithin_1 (a1 : Int) (a2 : Int) (a0 : Int) : Option Bool :=
  (Option.bind (X.i_within a0 a1 a2) fun v1_3 => some (!v1_3))
def X.i_allWithin (a0 : (List Int)) (a1 : Int) (a2 : Int) : Option Bool :=
  (Option.bind (X.slices_ContainsFunc_int_int a0 (X.i_allWithin_1 a1 a2)) fun v1_2 => some (!v1_2))
def X.i_Shape_maySpread (a0 : Shape) : Option Bool :=
  (bif (a0.Middle == 0) then (bif (a0.Index == 0) then some true else (bif (a0.Ring == 0) then some true else some false)) else (bif (a0.Ring == 0) then some (a0.Little == 0) else some false))
def X.i_IsShape (a0 : Shape) : Option Bool :=
  (Option.bind (Option.bind (X.i_Shape_bends a0) fun v1_4 => (Option.bind (appG (eI .i64) ([a0.Thumb] : List Int) v1_4) fun y1_5 => (Option.bind (X.i_allWithin y1_5 0 2) fun v1_6 => some ((!v1_6), y1_5, v1_4)))) fun ⟨b1, l2, l5⟩ => (bif b1 then some false else (bif (!a0.Spread) then some true else (Option.bind (X.i_Shape_maySpread a0) fun v3_5 => some v3_5))))
def X.i_Shape_with (a0 : Shape) (a1 : Int) (a2 : Int) : Option Shape :=
  (bif (a1 == 0) then (bif a0.Spread then (Option.bind (X.i_Shape_maySpread ({ a0 with Thumb := a2 })) fun v11_4 => some ({ a0 with Thumb := a2, Spread := v11_4 })) else some ({ a0 with Thumb := a2, Spread := false })) else (bif (a1 == 1) then (bif a0.Spread then (Option.bind (X.i_Shape_maySpread ({ a0 with Index := a2 })) fun v11_4 => some ({ a0 with Index := a2, Spread := v11_4 })) else some ({ a0 with Index := a2, Spread := false })) else (bif (a1 == 2) then (bif a0.Spread then (Option.bind (X.i_Shape_maySpread ({ a0 with Middle := a2 })) fun v11_4 => some ({ a0 with Middle := a2, Spread := v11_4 })) else some ({ a0 with Middle := a2, Spread := false })) else (bif (a1 == 3) then (bif a0.Spread then (Option.bind (X.i_Shape_maySpread ({ a0 with Ring := a2 })) fun v11_4 => some ({ a0 with Ring := a2, Spread := v11_4 })) else some ({ a0 with Ring := a2, Spread := false })) else (bif a0.Spread then (Option.bind (X.i_Shape_maySpread ({ a0 with Little := a2 })) fun v11_4 => some ({ a0 with Little := a2, Spread := v11_4 })) else some ({ a0 with Little := a2, Spread := false }))))))
def X.i_ParseShape (fu : Nat) (a0 : Str) : Option (Shape × Bool) :=
  (Option.bind (X.i_within (List.length a0 : Int) 5 6) fun v1_2 => (bif (!v1_2) then some (zShape, false) else (Option.bind (loopM (fun ⟨n2, s3⟩ => (bif decide (n2 < 5) then (Option.bind (getB a0 n2) fun y7_4 => (Option.bind (X.i_Shape_with s3 n2 (wr ((wr y7_4) - 48))) fun v7_7 => some (.inl ((wr (n2 + 1)), v7_7)))) else some (.inr s3))) fu (0, zShape)) fun s4 => (Option.bind (X.i_IsShape ({ s4 with Spread := ((List.length a0 : Int) == 6) })) fun v10_1 => (bif (!v10_1) then some (zShape, false) else (Option.bind (X.i_Shape_text ({ s4 with Spread := ((List.length a0 : Int) == 6) })) fun v10_5 => (bif (!seq v10_5 a0) then some (zShape, false) else some ({ s4 with Spread := ((List.length a0 : Int) == 6) }, true))))))))
def X.i_IsOrient (a0 : Orient) : Option Bool :=
  (Option.bind (X.i_within a0.Palm 0 5) fun v1_2 => (bif v1_2 then (Option.bind (X.i_within a0.Fingers 0 5) fun v1_6 => (bif v1_6 then some ((wr (Int.tdiv a0.Palm 2)) != (wr (Int.tdiv a0.Fingers 2))) else some false)) else some false))
def X.strings_IndexByte (a0 : Str) (a1 : Int) : Option Int := some (Lib.indexByte a0 a1.toNat.toUInt8)
def X.i_ParseOrient (a0 : Str) : Option (Orient × Bool) :=
  (bif ((List.length a0 : Int) != 2) then some (zOrient, false) else (Option.bind (getB a0 0) fun y3_1 => (Option.bind (X.strings_IndexByte ([117, 100, 108, 114, 102, 98] : Str) y3_1) fun v3_2 => (Option.bind (getB a0 1) fun y3_4 => (Option.bind (X.strings_IndexByte ([117, 100, 108, 114, 102, 98] : Str) y3_4) fun v3_5 => (Option.bind (X.i_IsOrient (⟨v3_2, v3_5⟩ : Orient)) fun v4_1 => (bif (!v4_1) then some (zOrient, false) else some ((⟨v3_2, v3_5⟩ : Orient), true))))))))
def X.i_Place_text (a0 : Place) : Option Str :=
  (Option.bind (getI ([([115, 112, 97, 99, 101] : Str), ([104, 101, 97, 100] : Str), ([101, 121, 101] : Str), ([99, 104, 101, 101, 107] : Str), ([109, 111, 117, 116, 104] : Str), ([99, 104, 105, 110] : Str), ([110, 101, 99, 107] : Str), ([99, 104, 101, 115, 116] : Str), ([119, 97, 105, 115, 116] : Str), ([104, 105, 112] : Str)] : List Str) a0.Region) fun y2_2 => (Option.bind (getI ([([60] : Str), ([] : Str), ([62] : Str)] : List Str) (wr (a0.Side + 1))) fun y2_8 => (Option.bind (catS y2_2 y2_8) fun y2_9 => (bif a0.Contact then (Option.bind (catS y2_9 ([42] : Str)) fun y4_1 => some y4_1) else some y2_9))))
def X.i_IsPlace (a0 : Place) : Option Bool :=
  (Option.bind (X.i_within a0.Region 0 9) fun v1_2 => (bif v1_2 then (Option.bind (X.i_within a0.Side (-1) 1) fun v1_6 => (bif v1_6 then (bif a0.Contact then some (!(a0.Region == 0)) else some true) else some false)) else some false))
def X.i_PlaceOfCode (a0 : Int) : Option (Place × Bool) :=
  (Option.bind (X.i_within a0 0 59) fun v1_1 => (bif (!v1_1) then some (zPlace, false) else (Option.bind (X.i_IsPlace (⟨(wr (Int.tdiv a0 6)), (wr ((wr (Int.tdiv (Int.tmod a0 6) 2)) - 1)), ((Int.tmod a0 2) == 1)⟩ : Place)) fun v4_1 => (bif (!v4_1) then some (zPlace, false) else some ((⟨(wr (Int.tdiv a0 6)), (wr ((wr (Int.tdiv (Int.tmod a0 6) 2)) - 1)), ((Int.tmod a0 2) == 1)⟩ : Place), true)))))
def X.i_ParsePlace (fu : Nat) (a0 : Str) : Option (Place × Bool) :=
  (orEl (loopM (fun n1 => (bif decide (n1 < 60) then (Option.bind (X.i_PlaceOfCode n1) fun v4_1 => (bif v4_1.2 then (Option.bind (X.i_Place_text v4_1.1) fun v5_3 => (bif (seq v5_3 a0) then some (.inr (.inl (v4_1.1, true))) else some (.inl (wr (n1 + 1))))) else some (.inl (wr (n1 + 1))))) else some (.inr (.inr ())))) fu 0) (fun r => some r) (fun _ => some (zPlace, false)))
def X.i_Move_text (a0 : Move) : Option Str :=
  (bif (seq a0.Steps ([] : Str)) then some ([45] : Str) else (bif (a0.Repeat == 1) then some a0.Steps else (Option.bind (catS a0.Steps ([42] : Str)) fun y5_2 => (Option.bind (X.strconv_Itoa a0.Repeat) fun v5_5 => (Option.bind (catS y5_2 v5_5) fun y5_6 => some y5_6)))))
def X.i_hasOnly (a0 : Str) (a1 : Str) : Option Bool :=
  (orEl (rangeN (fun (j2 : Int) _ => (Option.bind (getB a0 (j2 : Int)) fun y4_3 => (Option.bind (X.strings_IndexByte a1 y4_3) fun v4_4 => (bif decide (v4_4 < 0) then some (.inr (.inl false)) else some (.inl ()))))) (fun _ => some (.inr ())) (List.length a0 : Int) ()) (fun r => some r) (fun _ => some true))
def X.i_IsMove (a0 : Move) : Option Bool :=
  (bif decide ((List.length a0.Steps : Int) ≤ 6) then (Option.bind (X.i_hasOnly a0.Steps ([117, 100, 108, 114, 102, 98] : Str)) fun v1_7 => (bif v1_7 then (Option.bind (X.i_within a0.Repeat 1 3) fun v1_12 => (bif v1_12 then (bif (!seq a0.Steps ([] : Str)) then some true else some (a0.Repeat == 1)) else some false)) else some false)) else some false)
def X.i_decimal (a0 : Str) : Option (Int × Bool) :=
  bif decide (List.length a0 ≤ 281474976710656) then (match Lib.atoiAll a0 with
    | .ok v => bif seq (Lib.itoa v) a0 then some (v, true) else some (0, false)
    | _ => some (0, false)) else none
def X.i_ParseMove (a0 : Str) : Option (Move × Bool) :=
  (Option.bind (X.strings_Cut a0 ([42] : Str)) fun v1_1 => (bif v1_1.2.2 then (Option.bind (X.i_decimal v1_1.2.1) fun v4_1 => (bif (seq a0 ([45] : Str)) then (Option.bind (X.i_IsMove (⟨([] : Str), v4_1.1⟩ : Move)) fun v7_1 => (bif (!v7_1) then some (zMove, false) else (Option.bind (X.i_Move_text (⟨([] : Str), v4_1.1⟩ : Move)) fun v7_5 => (bif (!seq v7_5 a0) then some (zMove, false) else some ((⟨([] : Str), v4_1.1⟩ : Move), true))))) else (Option.bind (X.i_IsMove (⟨v1_1.1, v4_1.1⟩ : Move)) fun v7_1 => (bif (!v7_1) then some (zMove, false) else (Option.bind (X.i_Move_text (⟨v1_1.1, v4_1.1⟩ : Move)) fun v7_5 => (bif (!seq v7_5 a0) then some (zMove, false) else some ((⟨v1_1.1, v4_1.1⟩ : Move), true))))))) else (bif (seq a0 ([45] : Str)) then (Option.bind (X.i_IsMove (⟨([] : Str), 1⟩ : Move)) fun v7_1 => (bif (!v7_1) then some (zMove, false) else (Option.bind (X.i_Move_text (⟨([] : Str), 1⟩ : Move)) fun v7_5 => (bif (!seq v7_5 a0) then some (zMove, false) else some ((⟨([] : Str), 1⟩ : Move), true))))) else (Option.bind (X.i_IsMove (⟨v1_1.1, 1⟩ : Move)) fun v7_1 => (bif (!v7_1) then some (zMove, false) else (Option.bind (X.i_Move_text (⟨v1_1.1, 1⟩ : Move)) fun v7_5 => (bif (!seq v7_5 a0) then some (zMove, false) else some ((⟨v1_1.1, 1⟩ : Move), true))))))))
def X.i_readHand (fu : Nat) (a0 : Str) : Option (Hand × Int × Int) :=
  (Option.bind (X.strings_Split a0 ([47] : Str)) fun v1_1 => (bif ((List.length v1_1 : Int) != 4) then some (zHand, 2, 0) else (Option.bind (getI v1_1 0) fun y6_1 => (Option.bind (X.i_ParseShape fu y6_1) fun v6_3 => (Option.bind (getI ([false, false, false, false] : List Bool) 0) fun y6_9 => (Option.bind (getI v1_1 1) fun y7_1 => (Option.bind (X.i_ParseOrient y7_1) fun v7_3 => (Option.bind (getI ([v6_3.2, false, false, false] : List Bool) 1) fun y7_9 => (Option.bind (getI v1_1 2) fun y8_1 => (Option.bind (X.i_ParsePlace fu y8_1) fun v8_3 => (Option.bind (getI ([v6_3.2, v7_3.2, false, false] : List Bool) 2) fun y8_9 => (Option.bind (getI v1_1 3) fun y9_1 => (Option.bind (X.i_ParseMove y9_1) fun v9_3 => (Option.bind (getI ([v6_3.2, v7_3.2, v8_3.2, false] : List Bool) 3) fun y9_9 => (orEl (loopM (fun ⟨n2, n3⟩ => (bif decide (n3 < 4) then (Option.bind (getI ([v6_3.2, v7_3.2, v8_3.2, v9_3.2] : List Bool) n3) fun y13_1 => (bif (!y13_1) then some (.inr (.inl (zHand, (wr (3 + n3)), n2))) else (Option.bind (getI v1_1 n3) fun y16_3 => some (.inl ((wr (n2 + (wr ((List.length y16_3 : Int) + 1)))), (wr (n3 + 1))))))) else some (.inr (.inr ())))) fu (0, 0)) (fun r => some r) (fun _ => some ((⟨v6_3.1, v7_3.1, v8_3.1, v9_3.1⟩ : Hand), 0, 0)))))))))))))))))
def X.strings_Repeat (a0 : Str) (a1 : Int) : Option Str := if 0 ≤ a1 ∧ a1 ≤ 9223372036854775807 ∧ a0.length * a1.toNat ≤ 140737488355328 then some (Lib.repeatL a0 a1.toNat) else none
def X.i_Move_all (a0 : Move) : Option Str :=
  (Option.bind (X.strings_Repeat a0.Steps a0.Repeat) fun v1_4 => some v1_4)
def X.i_Hand_moves (a0 : Hand) : Option Bool :=
  some (!seq a0.Move.Steps ([] : Str))
def X.slices_Index_i_Shape_i_Shape (a0 : (List Shape)) (a1 : Shape) : Option Int :=
  (orEl (rangeM (fun (j2 : Int) (x3 : Shape) _ => (bif (qShape a1 x3) then some (.inr (.inl (j2 : Int))) else some (.inl ()))) (fun _ => some (.inr ())) a0 0 ()) (fun r => some r) (fun _ => some (-1)))
def X.slices_Contains_i_Shape_i_Shape (a0 : (List Shape)) (a1 : Shape) : Option Bool :=
  (Option.bind (X.slices_Index_i_Shape_i_Shape a0 a1) fun v1_2 => some (decide (v1_2 ≥ 0)))
def X.i_PlainShapes (fu : Nat) : Option (List Shape) :=
  (Option.bind (rangeM (fun (j8 : Int) (x9 : Str) l1 => (Option.bind (X.i_ParseShape fu x9) fun v5_1 => (Option.bind (appG nShape l1 ([v5_1.1] : List Shape)) fun y6_3 => some (.inl y6_3)))) (fun l1 => some l1) ([([48, 48, 48, 48, 48] : Str), ([48, 48, 48, 48, 48, 115] : Str), ([50, 50, 50, 50, 50] : Str), ([49, 48, 48, 48, 48] : Str), ([49, 48, 50, 50, 50] : Str), ([48, 48, 50, 50, 50] : Str)] : List Str) 0 ([] : List Shape)) fun l4 => some l4)
def X.i_Orient_mirrored_1 (a0 : Int) : Option Int :=
  (bif (a0 == 2) then some (wr (Int.ofNat (BitVec.ofInt (IntKind.bits .i64) a0 ^^^ BitVec.ofInt (IntKind.bits .i64) 1).toNat)) else (bif (a0 == 3) then some (wr (Int.ofNat (BitVec.ofInt (IntKind.bits .i64) a0 ^^^ BitVec.ofInt (IntKind.bits .i64) 1).toNat)) else some a0))
def X.i_Orient_mirrored (a0 : Orient) : Option Orient :=
  (Option.bind (X.i_Orient_mirrored_1 a0.Palm) fun v2_3 => (Option.bind (X.i_Orient_mirrored_1 a0.Fingers) fun v2_7 => some (⟨v2_3, v2_7⟩ : Orient)))
def X.i_Move_mirrored (a0 : Move) : Option Move := if a0.Steps.length ≤ 9223372036854775807 then some ⟨a0.Steps.map swapLR, a0.Repeat⟩ else none
def X.i_keepRules (fu : Nat) (a0 : Hand) (a1 : Hand) : Option Bool :=
  (Option.bind (X.i_Hand_moves a1) fun v1_1 => (bif (!v1_1) then (bif (qShape a1.Shape a0.Shape) then some true else (Option.bind (X.i_PlainShapes fu) fun v2_6 => (Option.bind (X.slices_Contains_i_Shape_i_Shape v2_6 a1.Shape) fun v2_9 => some v2_9))) else (bif (qOrient a1.Orient a0.Orient) then (Option.bind (X.i_Move_all a1.Move) fun v4_2 => (Option.bind (X.i_Move_all a0.Move) fun v4_5 => (bif (seq v4_2 v4_5) then (Option.bind (X.i_Hand_moves a0) fun v5_1 => (bif v5_1 then (bif (qShape a0.Shape a1.Shape) then some true else some false) else some false)) else (Option.bind (X.i_Move_all a1.Move) fun v4_10 => (Option.bind (X.i_Move_mirrored a0.Move) fun v4_13 => (Option.bind (X.i_Move_all v4_13) fun v4_14 => (Option.bind (X.i_Hand_moves a0) fun v5_1 => (bif v5_1 then (bif (qShape a0.Shape a1.Shape) then some (seq v4_10 v4_14) else some false) else some false)))))))) else (Option.bind (X.i_Orient_mirrored a0.Orient) fun v3_10 => (Option.bind (X.i_Move_all a1.Move) fun v4_2 => (Option.bind (X.i_Move_all a0.Move) fun v4_5 => (bif (seq v4_2 v4_5) then (Option.bind (X.i_Hand_moves a0) fun v5_1 => (bif v5_1 then (bif (qShape a0.Shape a1.Shape) then (bif (qOrient a1.Orient v3_10) then some true else some false) else some false) else some false)) else (Option.bind (X.i_Move_all a1.Move) fun v4_10 => (Option.bind (X.i_Move_mirrored a0.Move) fun v4_13 => (Option.bind (X.i_Move_all v4_13) fun v4_14 => (Option.bind (X.i_Hand_moves a0) fun v5_1 => (bif v5_1 then (bif (qShape a0.Shape a1.Shape) then (bif (qOrient a1.Orient v3_10) then some (seq v4_10 v4_14) else some false) else some false) else some false))))))))))))
def X.i_readSign (fu : Nat) (a0 : Str) : Option (Sign × Int × Int) :=
  (Option.bind (X.strings_Count a0 ([43] : Str)) fun v1_1 => (bif decide (v1_1 > 1) then some (zSign, 1, 0) else (Option.bind (X.strings_Cut a0 ([43] : Str)) fun v3_1 => (Option.bind (X.i_readHand fu v3_1.1) fun v4_1 => (bif (v4_1.2.1 != 0) then some (zSign, v4_1.2.1, v4_1.2.2) else (bif (!v3_1.2.2) then some ({ zSign with Main := v4_1.1 }, 0, 0) else (Option.bind (X.i_readHand fu v3_1.2.1) fun v10_1 => (bif (v10_1.2.1 != 0) then some (zSign, v10_1.2.1, (wr ((wr ((List.length v3_1.1 : Int) + 1)) + v10_1.2.2))) else (Option.bind (X.i_keepRules fu v4_1.1 v10_1.1) fun v13_2 => (bif (!v13_2) then some (zSign, 7, (wr ((List.length v3_1.1 : Int) + 1))) else some ((⟨v4_1.1, true, v10_1.1⟩ : Sign), 0, 0)))))))))))
def X.i_SignFault (fu : Nat) (a0 : Str) : Option (Int × Int × Bool) :=
  (bif decide ((List.length a0 : Int) > 200) then some (0, 0, false) else (Option.bind (X.i_readSign fu a0) fun v3_1 => some (v3_1.2.1, v3_1.2.2, true)))
def X.l_FnExactSignFault (fu : Nat) (a0 : Str) : Option Bool :=
  (bif decide ((List.length a0 : Int) > 1048576) then some true else (Option.bind (X.s_SignFault fu a0) fun v3_1 => (Option.bind (X.i_SignFault fu a0) fun v4_1 => (bif (v4_1.1 != v3_1.1) then some false else (bif (v4_1.2.1 != v3_1.2.1) then some false else (bif (!(v4_1.2.2 == v3_1.2.2)) then some false else some true))))))
end Go.Proofs.XC
