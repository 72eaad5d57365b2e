/- What each function of the given program reckons, as plain Lean functions (none: it would panic there, or a bound is passed). By AI agents; no person has read it. -/
import Derived.Test.YthmgaaommjienaaGreatDoorCore
import Derived.Lib.Join
import Derived.Lib.ItoaNum
import Derived.Lib.Repeat
import Derived.Lib.Bytealg
set_option linter.unusedVariables false
set_option linter.unusedSimpArgs false
set_option maxRecDepth 100000
namespace Go.Proofs.XC
open Go Go.RowKit
structure Move where
  Steps : Str
  Repeat : Int
deriving DecidableEq
def eMove (s : Move) : List Value := [.string (bs s.Steps), .int .i64 s.Repeat]
def zMove : Move := ⟨([] : Str), 0⟩
def qMove (a b : Move) : Bool := ((seq a.Steps b.Steps) && ((a.Repeat == b.Repeat) && true))
def nMove : Enc Move := ⟨eMove, 2, 24, fun _ => rfl, fun x => List.all_eq_true.1 (rfl : (eMove x).all (·.oneCell') = true), by decide⟩
structure Shape where
  Thumb : Int
  Index : Int
  Middle : Int
  Ring : Int
  Little : Int
  Spread : Bool
deriving DecidableEq
def eShape (s : Shape) : List Value := [.int .i64 s.Thumb, .int .i64 s.Index, .int .i64 s.Middle, .int .i64 s.Ring, .int .i64 s.Little, .bool s.Spread]
def zShape : Shape := ⟨0, 0, 0, 0, 0, false⟩
def qShape (a b : Shape) : Bool := ((a.Thumb == b.Thumb) && ((a.Index == b.Index) && ((a.Middle == b.Middle) && ((a.Ring == b.Ring) && ((a.Little == b.Little) && ((a.Spread == b.Spread) && true))))))
def nShape : Enc Shape := ⟨eShape, 6, 48, fun _ => rfl, fun x => List.all_eq_true.1 (rfl : (eShape x).all (·.oneCell') = true), by decide⟩
structure Orient where
  Palm : Int
  Fingers : Int
deriving DecidableEq
def eOrient (s : Orient) : List Value := [.int .i64 s.Palm, .int .i64 s.Fingers]
def zOrient : Orient := ⟨0, 0⟩
def qOrient (a b : Orient) : Bool := ((a.Palm == b.Palm) && ((a.Fingers == b.Fingers) && true))
def nOrient : Enc Orient := ⟨eOrient, 2, 16, fun _ => rfl, fun x => List.all_eq_true.1 (rfl : (eOrient x).all (·.oneCell') = true), by decide⟩
structure Place where
  Region : Int
  Side : Int
  Contact : Bool
deriving DecidableEq
def ePlace (s : Place) : List Value := [.int .i64 s.Region, .int .i64 s.Side, .bool s.Contact]
def zPlace : Place := ⟨0, 0, false⟩
def qPlace (a b : Place) : Bool := ((a.Region == b.Region) && ((a.Side == b.Side) && ((a.Contact == b.Contact) && true)))
def nPlace : Enc Place := ⟨ePlace, 3, 24, fun _ => rfl, fun x => List.all_eq_true.1 (rfl : (ePlace x).all (·.oneCell') = true), by decide⟩
structure Hand where
  Shape : Shape
  Orient : Orient
  Place : Place
  Move : Move
deriving DecidableEq
def eHand (s : Hand) : List Value := eShape s.Shape ++ (eOrient s.Orient ++ (ePlace s.Place ++ (eMove s.Move)))
def zHand : Hand := ⟨zShape, zOrient, zPlace, zMove⟩
def qHand (a b : Hand) : Bool := ((qShape a.Shape b.Shape) && ((qOrient a.Orient b.Orient) && ((qPlace a.Place b.Place) && ((qMove a.Move b.Move) && true))))
def nHand : Enc Hand := ⟨eHand, 13, 112, fun _ => rfl, fun x => List.all_eq_true.1 (rfl : (eHand x).all (·.oneCell') = true), by decide⟩
structure Sign where
  Main : Hand
  Two : Bool
  Other : Hand
deriving DecidableEq
def eSign (s : Sign) : List Value := eHand s.Main ++ ([.bool s.Two] ++ (eHand s.Other))
def zSign : Sign := ⟨zHand, false, zHand⟩
def qSign (a b : Sign) : Bool := ((qHand a.Main b.Main) && ((a.Two == b.Two) && ((qHand a.Other b.Other) && true)))
def nSign : Enc Sign := ⟨eSign, 27, 232, fun _ => rfl, fun x => List.all_eq_true.1 (rfl : (eSign x).all (·.oneCell') = true), by decide⟩
structure Pattern where
  Shape : Str
  Orient : Str
  Region : Int
  Steps : Str
  Hands : Int
deriving DecidableEq
def ePattern (s : Pattern) : List Value := [.string (bs s.Shape), .string (bs s.Orient), .int .i64 s.Region, .string (bs s.Steps), .int .i64 s.Hands]
def zPattern : Pattern := ⟨([] : Str), ([] : Str), 0, ([] : Str), 0⟩
def qPattern (a b : Pattern) : Bool := ((seq a.Shape b.Shape) && ((seq a.Orient b.Orient) && ((a.Region == b.Region) && ((seq a.Steps b.Steps) && ((a.Hands == b.Hands) && true)))))
def nPattern : Enc Pattern := ⟨ePattern, 5, 64, fun _ => rfl, fun x => List.all_eq_true.1 (rfl : (ePattern x).all (·.oneCell') = true), by decide⟩
structure Entry where
  Gloss : Str
  Sign : Sign
  Region : Int
  Uses : Int
deriving DecidableEq
def eEntry (s : Entry) : List Value := [.string (bs s.Gloss)] ++ (eSign s.Sign ++ ([.int .i64 s.Region, .int .i64 s.Uses]))
def zEntry : Entry := ⟨([] : Str), zSign, 0, 0⟩
def qEntry (a b : Entry) : Bool := ((seq a.Gloss b.Gloss) && ((qSign a.Sign b.Sign) && ((a.Region == b.Region) && ((a.Uses == b.Uses) && true))))
def nEntry : Enc Entry := ⟨eEntry, 30, 264, fun _ => rfl, fun x => List.all_eq_true.1 (rfl : (eEntry x).all (·.oneCell') = true), by decide⟩
def okMove (s : Move) : Prop := okS s.Steps ∧ okI s.Repeat
def okShape (s : Shape) : Prop := okI s.Thumb ∧ okI s.Index ∧ okI s.Middle ∧ okI s.Ring ∧ okI s.Little ∧ okB s.Spread
def okOrient (s : Orient) : Prop := okI s.Palm ∧ okI s.Fingers
def okPlace (s : Place) : Prop := okI s.Region ∧ okI s.Side ∧ okB s.Contact
def okHand (s : Hand) : Prop := okShape s.Shape ∧ okOrient s.Orient ∧ okPlace s.Place ∧ okMove s.Move
def okSign (s : Sign) : Prop := okHand s.Main ∧ okB s.Two ∧ okHand s.Other
def okPattern (s : Pattern) : Prop := okS s.Shape ∧ okS s.Orient ∧ okI s.Region ∧ okS s.Steps ∧ okI s.Hands
def okEntry (s : Entry) : Prop := okS s.Gloss ∧ okSign s.Sign ∧ okI s.Region ∧ okI s.Uses
def X.gosem_cut_init : Option Unit :=
  none
def X.l_szMove (a0 : Move) (a1 : Int) : Option Int :=
  (bif decide ((wr (a1 - (List.length a0.Steps : Int))) < 0) then some (-1) else some (wr (a1 - (List.length a0.Steps : Int))))
def X.l_szHand (a0 : Hand) (a1 : Int) : Option Int :=
  (Option.bind (X.l_szMove a0.Move a1) fun v1_3 => (bif decide (v1_3 < 0) then some (-1) else some v1_3))
def X.l_szSign (a0 : Sign) (a1 : Int) : Option Int :=
  (Option.bind (X.l_szHand a0.Main a1) fun v1_3 => (bif decide (v1_3 < 0) then some (-1) else (Option.bind (X.l_szHand a0.Other v1_3) fun v4_3 => (bif decide (v4_3 < 0) then some (-1) else some v4_3))))
def X.s_l1In (a0 : Int) (a1 : Int) (a2 : Int) : Option Bool :=
  (bif decide (a0 ≥ a1) then some (decide (a0 ≤ a2)) else some false)
def X.s_shFingers (a0 : Shape) : Option (List Int) :=
  some ([a0.Index, a0.Middle, a0.Ring, a0.Little] : List Int)
def X.s_l1All (a0 : (List Int)) (a1 : Int) (a2 : Int) : Option Bool :=
  (orEl (rangeM (fun (j2 : Int) (x3 : Int) _ => (Option.bind (X.s_l1In x3 a1 a2) fun v4_3 => (bif (!v4_3) then some (.inr (.inl false)) else some (.inl ())))) (fun _ => some (.inr ())) a0 0 ()) (fun r => some r) (fun _ => some true))
def X.s_shWide (fu : Nat) (a0 : Shape) : Option Bool :=
  (Option.bind (X.s_shFingers a0) fun v1_1 => (orEl (loopM (fun n1 => (bif decide (n1 < 4) then (Option.bind (getI v1_1 (wr (n1 - 1))) fun y5_3 => (bif (y5_3 == 0) then (Option.bind (getI v1_1 n1) fun y5_9 => (bif (y5_9 == 0) then some (.inr (.inl true)) else some (.inl (wr (n1 + 1))))) else some (.inl (wr (n1 + 1))))) else some (.inr (.inr ())))) fu 1) (fun r => some r) (fun _ => some false)))
def X.s_shGood (fu : Nat) (a0 : Shape) : Option Bool :=
  (Option.bind (X.s_l1In a0.Thumb 0 2) fun v1_2 => (bif v1_2 then (Option.bind (X.s_shFingers a0) fun v1_5 => (Option.bind (X.s_l1All v1_5 0 2) fun v1_6 => (bif v1_6 then (bif (!a0.Spread) then some true else (Option.bind (X.s_shWide fu a0) fun v1_14 => some v1_14)) else some false))) else some false))
def X.s_orDir (a0 : Int) : Option Bool :=
  (Option.bind (X.s_l1In a0 0 5) fun v1_1 => some v1_1)
def X.s_orOpposite (a0 : Int) : Option Int :=
  (bif ((Int.tmod a0 2) == 0) then some (wr (a0 + 1)) else some (wr (a0 - 1)))
def X.s_orGood (a0 : Orient) : Option Bool :=
  (Option.bind (X.s_orDir a0.Palm) fun v1_2 => (bif v1_2 then (Option.bind (X.s_orDir a0.Fingers) fun v1_6 => (bif v1_6 then (bif (a0.Palm != a0.Fingers) then (Option.bind (X.s_orOpposite a0.Fingers) fun v1_20 => some (a0.Palm != v1_20)) else some false) else some false)) else some false))
def X.s_plGood (a0 : Place) : Option Bool :=
  (Option.bind (X.s_l1In a0.Region 0 9) fun v1_2 => (bif v1_2 then (Option.bind (X.s_l1In a0.Side (-1) 1) fun v1_6 => (bif v1_6 then (bif decide (a0.Region > 0) then some true else some (!a0.Contact)) else some false)) else some false))
def X.s_mvLetters : Option Str :=
  some ([117, 100, 108, 114, 102, 98] : Str)
def X.s_mvIndex (fu : Nat) (a0 : Int) : Option Int :=
  (orEl (loopM (fun n1 => (Option.bind X.s_mvLetters fun v2_1 => (bif decide (n1 < (List.length v2_1 : Int)) then (Option.bind X.s_mvLetters fun v4_0 => (Option.bind (getB v4_0 n1) fun y4_2 => (bif (y4_2 == a0) then some (.inr (.inl n1)) else some (.inl (wr (n1 + 1)))))) else some (.inr (.inr ()))))) fu 0) (fun r => some r) (fun _ => some (-1)))
def X.s_mvSteps (fu : Nat) (a0 : Str) : Option Bool :=
  (orEl (loopM (fun n1 => (bif decide (n1 < (List.length a0 : Int)) then (Option.bind (getB a0 n1) fun y4_2 => (Option.bind (X.s_mvIndex fu y4_2) fun v4_3 => (bif decide (v4_3 < 0) then some (.inr (.inl false)) else some (.inl (wr (n1 + 1)))))) else some (.inr (.inr ())))) fu 0) (fun r => some r) (fun _ => some true))
def X.s_mvGood (fu : Nat) (a0 : Move) : Option Bool :=
  (bif decide ((List.length a0.Steps : Int) ≤ 6) then (Option.bind (X.s_mvSteps fu a0.Steps) fun v1_7 => (bif v1_7 then (Option.bind (X.s_l1In a0.Repeat 1 3) fun v1_12 => (bif v1_12 then (bif (!seq a0.Steps ([] : Str)) then some true else some (a0.Repeat == 1)) else some false)) else some false)) else some false)
def X.s_siHand (fu : Nat) (a0 : Hand) : Option Bool :=
  (Option.bind (X.s_shGood fu a0.Shape) fun v1_2 => (bif v1_2 then (Option.bind (X.s_orGood a0.Orient) fun v1_6 => (bif v1_6 then (Option.bind (X.s_plGood a0.Place) fun v1_11 => (bif v1_11 then (Option.bind (X.s_mvGood fu a0.Move) fun v1_16 => some v1_16) else some false)) else some false)) else some false))
def X.s_mvTimes (fu : Nat) (a0 : Str) (a1 : Int) : Option Str :=
  (Option.bind (loopM (fun ⟨n1, t2⟩ => (bif decide (n1 > 0) then (Option.bind (catS t2 a0) fun y4_2 => some (.inl ((wr (n1 - 1)), y4_2))) else some (.inr t2))) fu (a1, ([] : Str))) fun t3 => some t3)
def X.s_mvAll (fu : Nat) (a0 : Move) : Option Str :=
  (Option.bind (X.s_mvTimes fu a0.Steps a0.Repeat) fun v1_4 => some v1_4)
def X.s_orSwap (a0 : Int) : Option Int :=
  (bif (a0 == 2) then (Option.bind (X.s_orOpposite a0) fun v2_1 => some v2_1) else (bif (a0 == 3) then (Option.bind (X.s_orOpposite a0) fun v2_1 => some v2_1) else some a0))
def X.s_orMirror (a0 : Orient) : Option Orient :=
  (Option.bind (X.s_orSwap a0.Palm) fun v1_2 => (Option.bind (X.s_orSwap a0.Fingers) fun v1_5 => some (⟨v1_2, v1_5⟩ : Orient)))
def X.s_mvMirror (fu : Nat) (a0 : Move) : Option Move :=
  (Option.bind (loopM (fun ⟨t1, n2⟩ => (bif decide (n2 < (List.length a0.Steps : Int)) then (Option.bind (getB a0.Steps n2) fun y5_3 => (bif (y5_3 == 108) then (Option.bind (catS t1 ([114] : Str)) fun y8_1 => some (.inl (y8_1, (wr (n2 + 1))))) else (bif (y5_3 == 114) then (Option.bind (catS t1 ([108] : Str)) fun y10_1 => some (.inl (y10_1, (wr (n2 + 1))))) else (Option.bind (cutS a0.Steps n2 (wr (n2 + 1))) fun y6_6 => (Option.bind (catS t1 y6_6) fun y6_7 => some (.inl (y6_7, (wr (n2 + 1))))))))) else some (.inr t1))) fu (([] : Str), 0)) fun t3 => some ({ a0 with Steps := t3 }))
def X.s_shParse (fu : Nat) (a0 : Str) : Option (Shape × Bool) :=
  (Option.bind (X.s_l1In (List.length a0 : Int) 5 6) fun v1_2 => (bif (!v1_2) then some (zShape, false) else (bif ((List.length a0 : Int) == 6) then (Option.bind (getB a0 5) fun y1_10 => (bif (y1_10 != 115) then some (zShape, false) else (Option.bind (loopM (fun ⟨n4, l5⟩ => (bif decide (n4 < 5) then (Option.bind (getB a0 n4) fun y7_3 => (Option.bind (appG (eI .i64) l5 ([(wr ((wr y7_3) - 48))] : List Int)) fun y7_7 => some (.inl ((wr (n4 + 1)), y7_7)))) else some (.inr l5))) fu (0, ([] : List Int))) fun l8 => (Option.bind (getI l8 0) fun y8_1 => (Option.bind (getI l8 1) fun y8_4 => (Option.bind (getI l8 2) fun y8_7 => (Option.bind (getI l8 3) fun y8_10 => (Option.bind (getI l8 4) fun y8_13 => (Option.bind (X.s_shGood fu (⟨y8_1, y8_4, y8_7, y8_10, y8_13, ((List.length a0 : Int) == 6)⟩ : Shape)) fun v9_1 => (bif (!v9_1) then some (zShape, false) else some ((⟨y8_1, y8_4, y8_7, y8_10, y8_13, ((List.length a0 : Int) == 6)⟩ : Shape), true))))))))))) else (Option.bind (loopM (fun ⟨n14, l15⟩ => (bif decide (n14 < 5) then (Option.bind (getB a0 n14) fun y7_3 => (Option.bind (appG (eI .i64) l15 ([(wr ((wr y7_3) - 48))] : List Int)) fun y7_7 => some (.inl ((wr (n14 + 1)), y7_7)))) else some (.inr l15))) fu (0, ([] : List Int))) fun l18 => (Option.bind (getI l18 0) fun y8_1 => (Option.bind (getI l18 1) fun y8_4 => (Option.bind (getI l18 2) fun y8_7 => (Option.bind (getI l18 3) fun y8_10 => (Option.bind (getI l18 4) fun y8_13 => (Option.bind (X.s_shGood fu (⟨y8_1, y8_4, y8_7, y8_10, y8_13, ((List.length a0 : Int) == 6)⟩ : Shape)) fun v9_1 => (bif (!v9_1) then some (zShape, false) else some ((⟨y8_1, y8_4, y8_7, y8_10, y8_13, ((List.length a0 : Int) == 6)⟩ : Shape), true))))))))))))
def X.s_siPlain (fu : Nat) : Option (List Shape) :=
  (Option.bind (rangeM (fun (j8 : Int) (x9 : Str) l1 => (Option.bind (X.s_shParse fu x9) fun v5_1 => (Option.bind (appG nShape l1 ([v5_1.1] : List Shape)) fun y6_3 => some (.inl y6_3)))) (fun l1 => some l1) ([([48, 48, 48, 48, 48] : Str), ([48, 48, 48, 48, 48, 115] : Str), ([50, 50, 50, 50, 50] : Str), ([49, 48, 48, 48, 48] : Str), ([49, 48, 50, 50, 50] : Str), ([48, 48, 50, 50, 50] : Str)] : List Str) 0 ([] : List Shape)) fun l4 => some l4)
def X.s_siBroken (fu : Nat) (a0 : Hand) (a1 : Hand) : Option Int :=
  (bif (seq a1.Move.Steps ([] : Str)) then (bif (qShape a0.Shape a1.Shape) then some 0 else (Option.bind (X.s_siPlain fu) fun v4_0 => (orEl (rangeM (fun (j4 : Int) (x5 : Shape) _ => (bif (qShape x5 a1.Shape) then some (.inr (.inl 0)) else some (.inl ()))) (fun _ => some (.inr ())) v4_0 0 ()) (fun r => some r) (fun _ => some 4)))) else (bif (seq a0.Move.Steps ([] : Str)) then some 3 else (bif (!qShape a0.Shape a1.Shape) then some 1 else (bif (!qOrient a0.Orient a1.Orient) then (Option.bind (X.s_orMirror a1.Orient) fun v15_10 => (bif (!qOrient a0.Orient v15_10) then some 2 else (Option.bind (X.s_mvAll fu a0.Move) fun v17_2 => (Option.bind (X.s_mvAll fu a1.Move) fun v17_5 => (bif (!seq v17_2 v17_5) then (Option.bind (X.s_mvMirror fu a0.Move) fun v17_10 => (Option.bind (X.s_mvAll fu v17_10) fun v17_11 => (Option.bind (X.s_mvAll fu a1.Move) fun v17_14 => (bif (!seq v17_11 v17_14) then some 3 else some 0)))) else some 0))))) else (Option.bind (X.s_mvAll fu a0.Move) fun v17_2 => (Option.bind (X.s_mvAll fu a1.Move) fun v17_5 => (bif (!seq v17_2 v17_5) then (Option.bind (X.s_mvMirror fu a0.Move) fun v17_10 => (Option.bind (X.s_mvAll fu v17_10) fun v17_11 => (Option.bind (X.s_mvAll fu a1.Move) fun v17_14 => (bif (!seq v17_11 v17_14) then some 3 else some 0)))) else some 0)))))))
def X.s_siGood (fu : Nat) (a0 : Sign) : Option Bool :=
  (Option.bind (X.s_siHand fu a0.Main) fun v1_2 => (bif (!v1_2) then some false else (bif (!a0.Two) then some (qHand a0.Other zHand) else (Option.bind (X.s_siHand fu a0.Other) fun v5_2 => (bif v5_2 then (Option.bind (X.s_siBroken fu a0.Main a0.Other) fun v5_8 => some (v5_8 == 0)) else some false)))))
def X.s_siKind (a0 : Sign) : Option Int :=
  (bif (!a0.Two) then some 0 else (bif (!seq a0.Other.Move.Steps ([] : Str)) then some 1 else (bif (qShape a0.Main.Shape a0.Other.Shape) then some 2 else some 3)))
def X.s_mvOf (fu : Nat) (a0 : Str) : Option (Move × Bool) :=
  (bif (seq a0 ([] : Str)) then some ({ zMove with Repeat := 1 }, true) else (orEl (loopM (fun n2 => (bif decide (n2 ≤ 6) then (bif decide (n2 ≤ (List.length a0 : Int)) then (orEl (loopM (fun n6 => (bif decide (n6 ≤ 3) then (Option.bind (cutS a0 0 n2) fun y9_2 => (Option.bind (X.s_mvTimes fu y9_2 n6) fun v9_4 => (bif (seq v9_4 a0) then (Option.bind (cutS a0 0 n2) fun y10_2 => some (.inr (.inl ((⟨y10_2, n6⟩ : Move), true)))) else some (.inl (wr (n6 + 1)))))) else some (.inr (.inr ())))) fu 1) (fun r => some (.inr (.inl r))) (fun _ => some (.inl (wr (n2 + 1))))) else some (.inr (.inr ()))) else some (.inr (.inr ())))) fu 1) (fun r => some r) (fun _ => some (zMove, false))))
def X.s_mvNormal (fu : Nat) (a0 : Move) : Option Move :=
  (Option.bind (X.s_mvAll fu a0) fun v1_1 => (Option.bind (X.s_mvOf fu v1_1) fun v1_2 => some v1_2.1))
def X.s_noHand (fu : Nat) (a0 : Hand) : Option Hand :=
  (Option.bind (X.s_mvNormal fu a0.Move) fun v1_2 => some ({ a0 with Move := v1_2 }))
def X.s_orText (a0 : Orient) : Option Str :=
  (Option.bind (cutS ([117, 100, 108, 114, 102, 98] : Str) a0.Palm (wr (a0.Palm + 1))) fun y1_5 => (Option.bind (cutS ([117, 100, 108, 114, 102, 98] : Str) a0.Fingers (wr (a0.Fingers + 1))) fun y1_11 => (Option.bind (catS y1_5 y1_11) fun y1_12 => some y1_12)))
def X.s_l1Num : Nat → Int → Option Str
  | 0, _ => none
  | fu + 1, a0 => (bif decide (a0 < 10) then some (strOf ([(wk .u8 (wr (48 + a0)))] : List Int)) else (Option.bind (X.s_l1Num fu (wr (Int.tdiv a0 10))) fun v3_2 => (Option.bind (catS v3_2 (strOf ([(wk .u8 (wr (48 + (Int.tmod a0 10))))] : List Int))) fun y3_9 => some y3_9)))
def X.s_shText (fu : Nat) (a0 : Shape) : Option Str :=
  (Option.bind (X.s_l1Num fu a0.Thumb) fun v1_2 => (Option.bind (X.s_shFingers a0) fun v2_1 => (Option.bind (rangeM (fun (j4 : Int) (x5 : Int) t1 => (Option.bind (X.s_l1Num fu x5) fun v5_2 => (Option.bind (catS t1 v5_2) fun y5_3 => some (.inl y5_3)))) (fun t1 => some t1) v2_1 0 v1_2) fun t2 => (bif a0.Spread then (Option.bind (catS t2 ([115] : Str)) fun y8_1 => some y8_1) else some t2))))
def X.s_plNames : Option (List Str) :=
  some ([([115, 112, 97, 99, 101] : Str), ([104, 101, 97, 100] : Str), ([101, 121, 101] : Str), ([99, 104, 101, 101, 107] : Str), ([109, 111, 117, 116, 104] : Str), ([99, 104, 105, 110] : Str), ([110, 101, 99, 107] : Str), ([99, 104, 101, 115, 116] : Str), ([119, 97, 105, 115, 116] : Str), ([104, 105, 112] : Str)] : List Str)
def X.s_plText (a0 : Place) : Option Str :=
  (Option.bind X.s_plNames fun v1_0 => (Option.bind (getI v1_0 a0.Region) fun y1_3 => (bif (a0.Side == (-1)) then (Option.bind (catS y1_3 ([60] : Str)) fun y4_1 => (bif a0.Contact then (Option.bind (catS y4_1 ([42] : Str)) fun y8_1 => some y8_1) else some y4_1)) else (bif (a0.Side == 1) then (Option.bind (catS y1_3 ([62] : Str)) fun y6_1 => (bif a0.Contact then (Option.bind (catS y6_1 ([42] : Str)) fun y8_1 => some y8_1) else some y6_1)) else (bif a0.Contact then (Option.bind (catS y1_3 ([42] : Str)) fun y8_1 => some y8_1) else some y1_3)))))
def X.s_mvText (fu : Nat) (a0 : Move) : Option Str :=
  (bif (seq a0.Steps ([] : Str)) then some ([45] : Str) else (bif decide (a0.Repeat > 1) then (Option.bind (catS a0.Steps ([42] : Str)) fun y4_2 => (Option.bind (X.s_l1Num fu a0.Repeat) fun v4_5 => (Option.bind (catS y4_2 v4_5) fun y4_6 => some y4_6))) else some a0.Steps))
def X.s_siText (fu : Nat) (a0 : Hand) : Option Str :=
  (Option.bind (X.s_shText fu a0.Shape) fun v1_2 => (Option.bind (catS v1_2 ([47] : Str)) fun y1_3 => (Option.bind (X.s_orText a0.Orient) fun v1_6 => (Option.bind (catS y1_3 v1_6) fun y1_7 => (Option.bind (catS y1_7 ([47] : Str)) fun y1_8 => (Option.bind (X.s_plText a0.Place) fun v1_11 => (Option.bind (catS y1_8 v1_11) fun y1_12 => (Option.bind (catS y1_12 ([47] : Str)) fun y1_13 => (Option.bind (X.s_mvText fu a0.Move) fun v1_16 => (Option.bind (catS y1_13 v1_16) fun y1_17 => some y1_17))))))))))
def X.s_noForm (fu : Nat) (a0 : Sign) : Option Sign :=
  (Option.bind (X.s_noHand fu a0.Main) fun v1_2 => (bif (!a0.Two) then some ({ zSign with Main := v1_2 }) else (Option.bind (X.s_noHand fu a0.Other) fun v5_2 => (Option.bind (X.s_siKind (⟨v1_2, true, v5_2⟩ : Sign)) fun v6_1 => (bif (v6_1 == 1) then (Option.bind (X.s_siText fu v5_2) fun v6_6 => (Option.bind (X.s_siText fu v1_2) fun v6_9 => (bif (slt v6_6 v6_9) then some (⟨v5_2, true, v1_2⟩ : Sign) else some (⟨v1_2, true, v5_2⟩ : Sign)))) else some (⟨v1_2, true, v5_2⟩ : Sign))))))
def X.s_seShape (fu : Nat) (a0 : Shape) : Option Str :=
  (Option.bind (X.s_shText fu a0) fun v1_1 => (Option.bind (cutS v1_1 0 5) fun y1_2 => some y1_2))
def X.s_seHands (a0 : Sign) : Option Int :=
  (bif a0.Two then some 2 else some 1)
def X.s_PatternOf (fu : Nat) (a0 : Sign) : Option (Pattern × Bool) :=
  (Option.bind (X.s_siGood fu a0) fun v1_1 => (bif (!v1_1) then some (zPattern, false) else (Option.bind (X.s_noForm fu a0) fun v3_1 => (Option.bind (X.s_seShape fu v3_1.Main.Shape) fun v4_3 => (Option.bind (X.s_orText v3_1.Main.Orient) fun v4_7 => (Option.bind (X.s_mvAll fu v3_1.Main.Move) fun v4_15 => (Option.bind (X.s_seHands v3_1) fun v4_17 => some ((⟨v4_3, v4_7, v3_1.Main.Place.Region, v4_15, v4_17⟩ : Pattern), true))))))))
def X.l_toShape (a0 : Shape) : Option Shape :=
  some a0
def X.l_toOrient (a0 : Orient) : Option Orient :=
  some a0
def X.l_toPlace (a0 : Place) : Option Place :=
  some a0
def X.l_toMove (a0 : Move) : Option Move :=
  some a0
def X.l_toHand (a0 : Hand) : Option Hand :=
  (Option.bind (X.l_toShape a0.Shape) fun v2_2 => (Option.bind (X.l_toOrient a0.Orient) fun v3_2 => (Option.bind (X.l_toPlace a0.Place) fun v4_2 => (Option.bind (X.l_toMove a0.Move) fun v5_2 => some (⟨v2_2, v3_2, v4_2, v5_2⟩ : Hand)))))
def X.l_toSign (a0 : Sign) : Option Sign :=
  (Option.bind (X.l_toHand a0.Main) fun v2_2 => (Option.bind (X.l_toHand a0.Other) fun v4_2 => some (⟨v2_2, a0.Two, v4_2⟩ : Sign)))
def X.slices_IndexFunc_int_int (a0 : (List Int)) (a1 : (Int → Option Bool)) : Option Int :=
  (orEl (rangeM (fun (j2 : Int) (x3 : Int) _ => (Option.bind (a1 x3) fun v4_5 => (bif v4_5 then some (.inr (.inl (j2 : Int))) else some (.inl ())))) (fun _ => some (.inr ())) a0 0 ()) (fun r => some r) (fun _ => some (-1)))
def X.slices_ContainsFunc_int_int (a0 : (List Int)) (a1 : (Int → Option Bool)) : Option Bool :=
  (Option.bind (X.slices_IndexFunc_int_int a0 a1) fun v1_2 => some (decide (v1_2 ≥ 0)))
def X.i_within (a0 : Int) (a1 : Int) (a2 : Int) : Option Bool :=
  (bif decide (a0 ≥ a1) then some (decide (a0 ≤ a2)) else some false)
def X.i_allWithin_1 (a1 : Int) (a2 : Int) (a0 : Int) : Option Bool :=
  (Option.bind (X.i_within a0 a1 a2) fun v1_3 => some (!v1_3))
def X.i_allWithin (a0 : (List Int)) (a1 : Int) (a2 : Int) : Option Bool :=
  (Option.bind (X.slices_ContainsFunc_int_int a0 (X.i_allWithin_1 a1 a2)) fun v1_2 => some (!v1_2))
def X.i_Shape_bends (a0 : Shape) : Option (List Int) :=
  some ([a0.Index, a0.Middle, a0.Ring, a0.Little] : List Int)
def X.i_Shape_maySpread (a0 : Shape) : Option Bool :=
  (bif (a0.Middle == 0) then (bif (a0.Index == 0) then some true else (bif (a0.Ring == 0) then some true else some false)) else (bif (a0.Ring == 0) then some (a0.Little == 0) else some false))
def X.i_IsShape (a0 : Shape) : Option Bool :=
  (Option.bind (Option.bind (X.i_Shape_bends a0) fun v1_4 => (Option.bind (appG (eI .i64) ([a0.Thumb] : List Int) v1_4) fun y1_5 => (Option.bind (X.i_allWithin y1_5 0 2) fun v1_6 => some ((!v1_6), y1_5, v1_4)))) fun ⟨b1, l2, l5⟩ => (bif b1 then some false else (bif (!a0.Spread) then some true else (Option.bind (X.i_Shape_maySpread a0) fun v3_5 => some v3_5))))
def X.i_IsOrient (a0 : Orient) : Option Bool :=
  (Option.bind (X.i_within a0.Palm 0 5) fun v1_2 => (bif v1_2 then (Option.bind (X.i_within a0.Fingers 0 5) fun v1_6 => (bif v1_6 then some ((wr (Int.tdiv a0.Palm 2)) != (wr (Int.tdiv a0.Fingers 2))) else some false)) else some false))
def X.i_IsPlace (a0 : Place) : Option Bool :=
  (Option.bind (X.i_within a0.Region 0 9) fun v1_2 => (bif v1_2 then (Option.bind (X.i_within a0.Side (-1) 1) fun v1_6 => (bif v1_6 then (bif a0.Contact then some (!(a0.Region == 0)) else some true) else some false)) else some false))
def X.strings_IndexByte (a0 : Str) (a1 : Int) : Option Int := some (Lib.indexByte a0 a1.toNat.toUInt8)
def X.i_hasOnly (a0 : Str) (a1 : Str) : Option Bool :=
  (orEl (rangeN (fun (j2 : Int) _ => (Option.bind (getB a0 (j2 : Int)) fun y4_3 => (Option.bind (X.strings_IndexByte a1 y4_3) fun v4_4 => (bif decide (v4_4 < 0) then some (.inr (.inl false)) else some (.inl ()))))) (fun _ => some (.inr ())) (List.length a0 : Int) ()) (fun r => some r) (fun _ => some true))
def X.i_IsMove (a0 : Move) : Option Bool :=
  (bif decide ((List.length a0.Steps : Int) ≤ 6) then (Option.bind (X.i_hasOnly a0.Steps ([117, 100, 108, 114, 102, 98] : Str)) fun v1_7 => (bif v1_7 then (Option.bind (X.i_within a0.Repeat 1 3) fun v1_12 => (bif v1_12 then (bif (!seq a0.Steps ([] : Str)) then some true else some (a0.Repeat == 1)) else some false)) else some false)) else some false)
def X.i_IsHand (a0 : Hand) : Option Bool :=
  (Option.bind (X.i_IsShape a0.Shape) fun v1_2 => (bif v1_2 then (Option.bind (X.i_IsOrient a0.Orient) fun v1_6 => (bif v1_6 then (Option.bind (X.i_IsPlace a0.Place) fun v1_11 => (bif v1_11 then (Option.bind (X.i_IsMove a0.Move) fun v1_16 => some v1_16) else some false)) else some false)) else some false))
def X.i_Hand_moves (a0 : Hand) : Option Bool :=
  some (!seq a0.Move.Steps ([] : Str))
def X.i_Orient_mirrored_1 (a0 : Int) : Option Int :=
  (bif (a0 == 2) then some (wr (Int.ofNat (BitVec.ofInt (IntKind.bits .i64) a0 ^^^ BitVec.ofInt (IntKind.bits .i64) 1).toNat)) else (bif (a0 == 3) then some (wr (Int.ofNat (BitVec.ofInt (IntKind.bits .i64) a0 ^^^ BitVec.ofInt (IntKind.bits .i64) 1).toNat)) else some a0))
def X.i_Orient_mirrored (a0 : Orient) : Option Orient :=
  (Option.bind (X.i_Orient_mirrored_1 a0.Palm) fun v2_3 => (Option.bind (X.i_Orient_mirrored_1 a0.Fingers) fun v2_7 => some (⟨v2_3, v2_7⟩ : Orient)))
def X.strings_Repeat (a0 : Str) (a1 : Int) : Option Str := if 0 ≤ a1 ∧ a1 ≤ 9223372036854775807 ∧ a0.length * a1.toNat ≤ 140737488355328 then some (Lib.repeatL a0 a1.toNat) else none
def X.i_Move_all (a0 : Move) : Option Str :=
  (Option.bind (X.strings_Repeat a0.Steps a0.Repeat) fun v1_4 => some v1_4)
def X.slices_Index_i_Shape_i_Shape (a0 : (List Shape)) (a1 : Shape) : Option Int :=
  (orEl (rangeM (fun (j2 : Int) (x3 : Shape) _ => (bif (qShape a1 x3) then some (.inr (.inl (j2 : Int))) else some (.inl ()))) (fun _ => some (.inr ())) a0 0 ()) (fun r => some r) (fun _ => some (-1)))
def X.slices_Contains_i_Shape_i_Shape (a0 : (List Shape)) (a1 : Shape) : Option Bool :=
  (Option.bind (X.slices_Index_i_Shape_i_Shape a0 a1) fun v1_2 => some (decide (v1_2 ≥ 0)))
def X.strconv_Itoa (a0 : Int) : Option Str := if 0 ≤ a0 ∧ a0 < 100 then some (Lib.decDigits a0.toNat) else none
def X.i_Shape_text (a0 : Shape) : Option Str :=
  (Option.bind (X.strconv_Itoa a0.Thumb) fun v1_2 => (Option.bind (X.i_Shape_bends a0) fun v2_1 => (Option.bind (rangeM (fun (j4 : Int) (x5 : Int) t1 => (Option.bind (X.strconv_Itoa x5) fun v5_2 => (Option.bind (catS t1 v5_2) fun y5_3 => some (.inl y5_3)))) (fun t1 => some t1) v2_1 0 v1_2) fun t2 => (bif a0.Spread then (Option.bind (catS t2 ([115] : Str)) fun y8_1 => some y8_1) else some t2))))
def X.i_Shape_with (a0 : Shape) (a1 : Int) (a2 : Int) : Option Shape :=
  (bif (a1 == 0) then (bif a0.Spread then (Option.bind (X.i_Shape_maySpread ({ a0 with Thumb := a2 })) fun v11_4 => some ({ a0 with Thumb := a2, Spread := v11_4 })) else some ({ a0 with Thumb := a2, Spread := false })) else (bif (a1 == 1) then (bif a0.Spread then (Option.bind (X.i_Shape_maySpread ({ a0 with Index := a2 })) fun v11_4 => some ({ a0 with Index := a2, Spread := v11_4 })) else some ({ a0 with Index := a2, Spread := false })) else (bif (a1 == 2) then (bif a0.Spread then (Option.bind (X.i_Shape_maySpread ({ a0 with Middle := a2 })) fun v11_4 => some ({ a0 with Middle := a2, Spread := v11_4 })) else some ({ a0 with Middle := a2, Spread := false })) else (bif (a1 == 3) then (bif a0.Spread then (Option.bind (X.i_Shape_maySpread ({ a0 with Ring := a2 })) fun v11_4 => some ({ a0 with Ring := a2, Spread := v11_4 })) else some ({ a0 with Ring := a2, Spread := false })) else (bif a0.Spread then (Option.bind (X.i_Shape_maySpread ({ a0 with Little := a2 })) fun v11_4 => some ({ a0 with Little := a2, Spread := v11_4 })) else some ({ a0 with Little := a2, Spread := false }))))))
def X.i_ParseShape (fu : Nat) (a0 : Str) : Option (Shape × Bool) :=
  (Option.bind (X.i_within (List.length a0 : Int) 5 6) fun v1_2 => (bif (!v1_2) then some (zShape, false) else (Option.bind (loopM (fun ⟨n2, s3⟩ => (bif decide (n2 < 5) then (Option.bind (getB a0 n2) fun y7_4 => (Option.bind (X.i_Shape_with s3 n2 (wr ((wr y7_4) - 48))) fun v7_7 => some (.inl ((wr (n2 + 1)), v7_7)))) else some (.inr s3))) fu (0, zShape)) fun s4 => (Option.bind (X.i_IsShape ({ s4 with Spread := ((List.length a0 : Int) == 6) })) fun v10_1 => (bif (!v10_1) then some (zShape, false) else (Option.bind (X.i_Shape_text ({ s4 with Spread := ((List.length a0 : Int) == 6) })) fun v10_5 => (bif (!seq v10_5 a0) then some (zShape, false) else some ({ s4 with Spread := ((List.length a0 : Int) == 6) }, true))))))))
def X.i_PlainShapes (fu : Nat) : Option (List Shape) :=
  (Option.bind (rangeM (fun (j8 : Int) (x9 : Str) l1 => (Option.bind (X.i_ParseShape fu x9) fun v5_1 => (Option.bind (appG nShape l1 ([v5_1.1] : List Shape)) fun y6_3 => some (.inl y6_3)))) (fun l1 => some l1) ([([48, 48, 48, 48, 48] : Str), ([48, 48, 48, 48, 48, 115] : Str), ([50, 50, 50, 50, 50] : Str), ([49, 48, 48, 48, 48] : Str), ([49, 48, 50, 50, 50] : Str), ([48, 48, 50, 50, 50] : Str)] : List Str) 0 ([] : List Shape)) fun l4 => some l4)
def X.i_Move_mirrored (a0 : Move) : Option Move := if a0.Steps.length ≤ 9223372036854775807 then some ⟨a0.Steps.map swapLR, a0.Repeat⟩ else none
def X.i_keepRules (fu : Nat) (a0 : Hand) (a1 : Hand) : Option Bool :=
  (Option.bind (X.i_Hand_moves a1) fun v1_1 => (bif (!v1_1) then (bif (qShape a1.Shape a0.Shape) then some true else (Option.bind (X.i_PlainShapes fu) fun v2_6 => (Option.bind (X.slices_Contains_i_Shape_i_Shape v2_6 a1.Shape) fun v2_9 => some v2_9))) else (bif (qOrient a1.Orient a0.Orient) then (Option.bind (X.i_Move_all a1.Move) fun v4_2 => (Option.bind (X.i_Move_all a0.Move) fun v4_5 => (bif (seq v4_2 v4_5) then (Option.bind (X.i_Hand_moves a0) fun v5_1 => (bif v5_1 then (bif (qShape a0.Shape a1.Shape) then some true else some false) else some false)) else (Option.bind (X.i_Move_all a1.Move) fun v4_10 => (Option.bind (X.i_Move_mirrored a0.Move) fun v4_13 => (Option.bind (X.i_Move_all v4_13) fun v4_14 => (Option.bind (X.i_Hand_moves a0) fun v5_1 => (bif v5_1 then (bif (qShape a0.Shape a1.Shape) then some (seq v4_10 v4_14) else some false) else some false)))))))) else (Option.bind (X.i_Orient_mirrored a0.Orient) fun v3_10 => (Option.bind (X.i_Move_all a1.Move) fun v4_2 => (Option.bind (X.i_Move_all a0.Move) fun v4_5 => (bif (seq v4_2 v4_5) then (Option.bind (X.i_Hand_moves a0) fun v5_1 => (bif v5_1 then (bif (qShape a0.Shape a1.Shape) then (bif (qOrient a1.Orient v3_10) then some true else some false) else some false) else some false)) else (Option.bind (X.i_Move_all a1.Move) fun v4_10 => (Option.bind (X.i_Move_mirrored a0.Move) fun v4_13 => (Option.bind (X.i_Move_all v4_13) fun v4_14 => (Option.bind (X.i_Hand_moves a0) fun v5_1 => (bif v5_1 then (bif (qShape a0.Shape a1.Shape) then (bif (qOrient a1.Orient v3_10) then some (seq v4_10 v4_14) else some false) else some false) else some false))))))))))))
def X.i_IsSign (fu : Nat) (a0 : Sign) : Option Bool :=
  (Option.bind (X.i_IsHand a0.Main) fun v1_2 => (bif (!v1_2) then some false else (bif (!a0.Two) then some (qHand a0.Other zHand) else (Option.bind (X.i_IsHand a0.Other) fun v5_2 => (bif v5_2 then (Option.bind (X.i_keepRules fu a0.Main a0.Other) fun v5_8 => some v5_8) else some false)))))
def X.i_Sign_kind (a0 : Sign) : Option Int :=
  (bif (!a0.Two) then some 0 else (Option.bind (X.i_Hand_moves a0.Other) fun v3_2 => (bif v3_2 then some 1 else (bif (qShape a0.Other.Shape a0.Main.Shape) then some 2 else some 3))))
def X.strings_Join (a0 : List Str) (a1 : Str) : Option Str := if (Lib.join a0 a1).length ≤ 140737488355328 ∧ a0.length ≤ 140737488355328 then some (Lib.join a0 a1) else none
def X.i_Orient_text (a0 : Orient) : Option Str :=
  (Option.bind (cutS ([117, 100, 108, 114, 102, 98] : Str) a0.Palm (wr (a0.Palm + 1))) fun y1_5 => (Option.bind (cutS ([117, 100, 108, 114, 102, 98] : Str) a0.Fingers (wr (a0.Fingers + 1))) fun y1_11 => (Option.bind (catS y1_5 y1_11) fun y1_12 => some y1_12)))
def X.i_Place_text (a0 : Place) : Option Str :=
  (Option.bind (getI ([([115, 112, 97, 99, 101] : Str), ([104, 101, 97, 100] : Str), ([101, 121, 101] : Str), ([99, 104, 101, 101, 107] : Str), ([109, 111, 117, 116, 104] : Str), ([99, 104, 105, 110] : Str), ([110, 101, 99, 107] : Str), ([99, 104, 101, 115, 116] : Str), ([119, 97, 105, 115, 116] : Str), ([104, 105, 112] : Str)] : List Str) a0.Region) fun y2_2 => (Option.bind (getI ([([60] : Str), ([] : Str), ([62] : Str)] : List Str) (wr (a0.Side + 1))) fun y2_8 => (Option.bind (catS y2_2 y2_8) fun y2_9 => (bif a0.Contact then (Option.bind (catS y2_9 ([42] : Str)) fun y4_1 => some y4_1) else some y2_9))))
def X.i_Move_text (a0 : Move) : Option Str :=
  (bif (seq a0.Steps ([] : Str)) then some ([45] : Str) else (bif (a0.Repeat == 1) then some a0.Steps else (Option.bind (catS a0.Steps ([42] : Str)) fun y5_2 => (Option.bind (X.strconv_Itoa a0.Repeat) fun v5_5 => (Option.bind (catS y5_2 v5_5) fun y5_6 => some y5_6)))))
def X.i_Hand_text (a0 : Hand) : Option Str :=
  (Option.bind (X.i_Shape_text a0.Shape) fun v1_2 => (Option.bind (X.i_Orient_text a0.Orient) fun v1_5 => (Option.bind (X.i_Place_text a0.Place) fun v1_8 => (Option.bind (X.i_Move_text a0.Move) fun v1_11 => (Option.bind (X.strings_Join ([v1_2, v1_5, v1_8, v1_11] : List Str) ([47] : Str)) fun v1_13 => some v1_13)))))
def X.i_moveOf (fu : Nat) (a0 : Str) : Option (Move × Bool) :=
  (bif (seq a0 ([] : Str)) then some ({ zMove with Repeat := 1 }, true) else (orEl (loopM (fun n2 => (bif decide (n2 ≥ 1) then (Option.bind (divI (List.length a0 : Int) n2) fun y6_4 => (Option.bind (cutS a0 0 y6_4) fun y6_5 => (bif decide ((List.length y6_5 : Int) ≤ 6) then (Option.bind (X.strings_Repeat y6_5 n2) fun v7_6 => (bif (seq v7_6 a0) then some (.inr (.inl ((⟨y6_5, n2⟩ : Move), true))) else some (.inl (wr (n2 - 1))))) else some (.inl (wr (n2 - 1)))))) else some (.inr (.inr ())))) fu 3) (fun r => some r) (fun _ => some (zMove, false))))
def X.i_Move_normal (fu : Nat) (a0 : Move) : Option Move :=
  (Option.bind (X.i_Move_all a0) fun v1_1 => (Option.bind (X.i_moveOf fu v1_1) fun v1_2 => some v1_2.1))
def X.i_Hand_normal (fu : Nat) (a0 : Hand) : Option Hand :=
  (Option.bind (X.i_Move_normal fu a0.Move) fun v1_2 => some ({ a0 with Move := v1_2 }))
def X.i_Sign_normal (fu : Nat) (a0 : Sign) : Option Sign :=
  (Option.bind (X.i_Hand_normal fu a0.Main) fun v1_2 => (bif (!a0.Two) then some ({ a0 with Main := v1_2 }) else (Option.bind (X.i_Hand_normal fu a0.Other) fun v4_2 => (Option.bind (X.i_Sign_kind (⟨v1_2, a0.Two, v4_2⟩ : Sign)) fun v5_1 => (bif (v5_1 == 1) then (Option.bind (X.i_Hand_text v4_2) fun v5_6 => (Option.bind (X.i_Hand_text v1_2) fun v5_9 => (bif (slt v5_6 v5_9) then some (⟨v4_2, a0.Two, v1_2⟩ : Sign) else some (⟨v1_2, a0.Two, v4_2⟩ : Sign)))) else some (⟨v1_2, a0.Two, v4_2⟩ : Sign))))))
def X.i_patternOf (fu : Nat) (a0 : Sign) : Option Pattern :=
  (Option.bind (X.i_Sign_normal fu a0) fun v1_1 => (Option.bind (X.i_Shape_text v1_1.Main.Shape) fun v2_2 => (Option.bind (cutS v2_2 0 5) fun y2_3 => (Option.bind (X.i_Orient_text v1_1.Main.Orient) fun v2_6 => (Option.bind (X.i_Move_all v1_1.Main.Move) fun v2_12 => (bif a0.Two then some (⟨y2_3, v2_6, v1_1.Main.Place.Region, v2_12, 2⟩ : Pattern) else some (⟨y2_3, v2_6, v1_1.Main.Place.Region, v2_12, 1⟩ : Pattern)))))))
def X.i_PatternOf (fu : Nat) (a0 : Sign) : Option (Pattern × Bool) :=
  (Option.bind (X.i_IsSign fu a0) fun v1_1 => (bif (!v1_1) then some (zPattern, false) else (Option.bind (X.i_patternOf fu a0) fun v3_1 => some (v3_1, true))))
def X.l_eqPattern (a0 : Pattern) (a1 : Pattern) : Option Bool :=
  (bif (!seq a0.Shape a1.Shape) then some false else (bif (!seq a0.Orient a1.Orient) then some false else (bif (a0.Region != a1.Region) then some false else (bif (!seq a0.Steps a1.Steps) then some false else (bif (a0.Hands != a1.Hands) then some false else some true)))))
def X.l_FnExactPatternOf (fu : Nat) (a0 : Sign) : Option Bool :=
  (Option.bind (X.l_szSign a0 1048576) fun v2_2 => (bif decide (v2_2 < 0) then some true else (Option.bind (X.l_toSign a0) fun v5_1 => (Option.bind (X.s_PatternOf fu v5_1) fun v5_2 => (Option.bind (X.l_toSign a0) fun v6_1 => (Option.bind (X.i_PatternOf fu v6_1) fun v6_2 => (Option.bind (X.l_eqPattern v6_2.1 v5_2.1) fun v7_2 => (bif (!v7_2) then some false else (bif (!(v6_2.2 == v5_2.2)) then some false else some true)))))))))
def X.s_prApart (fu : Nat) (a0 : Sign) (a1 : Sign) : Option (List Int) :=
  (Option.bind (Option.bind (X.s_noForm fu a0) fun v1_1 => (Option.bind (X.s_noForm fu a1) fun v1_3 => some (v1_1, v1_3))) fun ⟨s1, s2⟩ => (bif (!qShape s1.Main.Shape s2.Main.Shape) then (Option.bind (appG (eI .i64) ([] : List Int) ([0] : List Int)) fun y4_2 => (bif (!qOrient s1.Main.Orient s2.Main.Orient) then (Option.bind (appG (eI .i64) y4_2 ([1] : List Int)) fun y6_2 => (bif (!qPlace s1.Main.Place s2.Main.Place) then (Option.bind (appG (eI .i64) y6_2 ([2] : List Int)) fun y8_2 => (bif (!qMove s1.Main.Move s2.Main.Move) then (Option.bind (appG (eI .i64) y8_2 ([3] : List Int)) fun y10_2 => (bif (!(s1.Two == s2.Two)) then (Option.bind (appG (eI .i64) y10_2 ([4] : List Int)) fun y12_2 => some y12_2) else (bif (!qHand s1.Other s2.Other) then (Option.bind (appG (eI .i64) y10_2 ([4] : List Int)) fun y12_2 => some y12_2) else some y10_2))) else (bif (!(s1.Two == s2.Two)) then (Option.bind (appG (eI .i64) y8_2 ([4] : List Int)) fun y12_2 => some y12_2) else (bif (!qHand s1.Other s2.Other) then (Option.bind (appG (eI .i64) y8_2 ([4] : List Int)) fun y12_2 => some y12_2) else some y8_2)))) else (bif (!qMove s1.Main.Move s2.Main.Move) then (Option.bind (appG (eI .i64) y6_2 ([3] : List Int)) fun y10_2 => (bif (!(s1.Two == s2.Two)) then (Option.bind (appG (eI .i64) y10_2 ([4] : List Int)) fun y12_2 => some y12_2) else (bif (!qHand s1.Other s2.Other) then (Option.bind (appG (eI .i64) y10_2 ([4] : List Int)) fun y12_2 => some y12_2) else some y10_2))) else (bif (!(s1.Two == s2.Two)) then (Option.bind (appG (eI .i64) y6_2 ([4] : List Int)) fun y12_2 => some y12_2) else (bif (!qHand s1.Other s2.Other) then (Option.bind (appG (eI .i64) y6_2 ([4] : List Int)) fun y12_2 => some y12_2) else some y6_2))))) else (bif (!qPlace s1.Main.Place s2.Main.Place) then (Option.bind (appG (eI .i64) y4_2 ([2] : List Int)) fun y8_2 => (bif (!qMove s1.Main.Move s2.Main.Move) then (Option.bind (appG (eI .i64) y8_2 ([3] : List Int)) fun y10_2 => (bif (!(s1.Two == s2.Two)) then (Option.bind (appG (eI .i64) y10_2 ([4] : List Int)) fun y12_2 => some y12_2) else (bif (!qHand s1.Other s2.Other) then (Option.bind (appG (eI .i64) y10_2 ([4] : List Int)) fun y12_2 => some y12_2) else some y10_2))) else (bif (!(s1.Two == s2.Two)) then (Option.bind (appG (eI .i64) y8_2 ([4] : List Int)) fun y12_2 => some y12_2) else (bif (!qHand s1.Other s2.Other) then (Option.bind (appG (eI .i64) y8_2 ([4] : List Int)) fun y12_2 => some y12_2) else some y8_2)))) else (bif (!qMove s1.Main.Move s2.Main.Move) then (Option.bind (appG (eI .i64) y4_2 ([3] : List Int)) fun y10_2 => (bif (!(s1.Two == s2.Two)) then (Option.bind (appG (eI .i64) y10_2 ([4] : List Int)) fun y12_2 => some y12_2) else (bif (!qHand s1.Other s2.Other) then (Option.bind (appG (eI .i64) y10_2 ([4] : List Int)) fun y12_2 => some y12_2) else some y10_2))) else (bif (!(s1.Two == s2.Two)) then (Option.bind (appG (eI .i64) y4_2 ([4] : List Int)) fun y12_2 => some y12_2) else (bif (!qHand s1.Other s2.Other) then (Option.bind (appG (eI .i64) y4_2 ([4] : List Int)) fun y12_2 => some y12_2) else some y4_2)))))) else (bif (!qOrient s1.Main.Orient s2.Main.Orient) then (Option.bind (appG (eI .i64) ([] : List Int) ([1] : List Int)) fun y6_2 => (bif (!qPlace s1.Main.Place s2.Main.Place) then (Option.bind (appG (eI .i64) y6_2 ([2] : List Int)) fun y8_2 => (bif (!qMove s1.Main.Move s2.Main.Move) then (Option.bind (appG (eI .i64) y8_2 ([3] : List Int)) fun y10_2 => (bif (!(s1.Two == s2.Two)) then (Option.bind (appG (eI .i64) y10_2 ([4] : List Int)) fun y12_2 => some y12_2) else (bif (!qHand s1.Other s2.Other) then (Option.bind (appG (eI .i64) y10_2 ([4] : List Int)) fun y12_2 => some y12_2) else some y10_2))) else (bif (!(s1.Two == s2.Two)) then (Option.bind (appG (eI .i64) y8_2 ([4] : List Int)) fun y12_2 => some y12_2) else (bif (!qHand s1.Other s2.Other) then (Option.bind (appG (eI .i64) y8_2 ([4] : List Int)) fun y12_2 => some y12_2) else some y8_2)))) else (bif (!qMove s1.Main.Move s2.Main.Move) then (Option.bind (appG (eI .i64) y6_2 ([3] : List Int)) fun y10_2 => (bif (!(s1.Two == s2.Two)) then (Option.bind (appG (eI .i64) y10_2 ([4] : List Int)) fun y12_2 => some y12_2) else (bif (!qHand s1.Other s2.Other) then (Option.bind (appG (eI .i64) y10_2 ([4] : List Int)) fun y12_2 => some y12_2) else some y10_2))) else (bif (!(s1.Two == s2.Two)) then (Option.bind (appG (eI .i64) y6_2 ([4] : List Int)) fun y12_2 => some y12_2) else (bif (!qHand s1.Other s2.Other) then (Option.bind (appG (eI .i64) y6_2 ([4] : List Int)) fun y12_2 => some y12_2) else some y6_2))))) else (bif (!qPlace s1.Main.Place s2.Main.Place) then (Option.bind (appG (eI .i64) ([] : List Int) ([2] : List Int)) fun y8_2 => (bif (!qMove s1.Main.Move s2.Main.Move) then (Option.bind (appG (eI .i64) y8_2 ([3] : List Int)) fun y10_2 => (bif (!(s1.Two == s2.Two)) then (Option.bind (appG (eI .i64) y10_2 ([4] : List Int)) fun y12_2 => some y12_2) else (bif (!qHand s1.Other s2.Other) then (Option.bind (appG (eI .i64) y10_2 ([4] : List Int)) fun y12_2 => some y12_2) else some y10_2))) else (bif (!(s1.Two == s2.Two)) then (Option.bind (appG (eI .i64) y8_2 ([4] : List Int)) fun y12_2 => some y12_2) else (bif (!qHand s1.Other s2.Other) then (Option.bind (appG (eI .i64) y8_2 ([4] : List Int)) fun y12_2 => some y12_2) else some y8_2)))) else (bif (!qMove s1.Main.Move s2.Main.Move) then (Option.bind (appG (eI .i64) ([] : List Int) ([3] : List Int)) fun y10_2 => (bif (!(s1.Two == s2.Two)) then (Option.bind (appG (eI .i64) y10_2 ([4] : List Int)) fun y12_2 => some y12_2) else (bif (!qHand s1.Other s2.Other) then (Option.bind (appG (eI .i64) y10_2 ([4] : List Int)) fun y12_2 => some y12_2) else some y10_2))) else (bif (!(s1.Two == s2.Two)) then (Option.bind (appG (eI .i64) ([] : List Int) ([4] : List Int)) fun y12_2 => some y12_2) else (bif (!qHand s1.Other s2.Other) then (Option.bind (appG (eI .i64) ([] : List Int) ([4] : List Int)) fun y12_2 => some y12_2) else some ([] : List _))))))))
def X.s_prPair (fu : Nat) (a0 : Sign) (a1 : Sign) : Option Bool :=
  (Option.bind (X.s_prApart fu a0 a1) fun v1_2 => some ((List.length v1_2 : Int) == 1))
def X.s_IsMinimalPair (fu : Nat) (a0 : Sign) (a1 : Sign) : Option (Bool × Bool) :=
  (Option.bind (X.s_siGood fu a0) fun v1_1 => (bif (!v1_1) then some (false, false) else (Option.bind (X.s_siGood fu a1) fun v1_5 => (bif (!v1_5) then some (false, false) else (Option.bind (X.s_prPair fu a0 a1) fun v3_2 => some (v3_2, true))))))
def X.i_Hand_same (a0 : Hand) (a1 : Hand) : Option (List Bool) :=
  some ([(qShape a0.Shape a1.Shape), (qOrient a0.Orient a1.Orient), (qPlace a0.Place a1.Place), (qMove a0.Move a1.Move)] : List Bool)
def X.i_those_bool (a0 : (List Bool)) (a1 : (Bool → Option Bool)) : Option (List Int) :=
  (Option.bind (rangeM (fun (j8 : Int) (x9 : Bool) l1 => (Option.bind (a1 x9) fun v5_2 => (bif v5_2 then (Option.bind (appG (eI .i64) l1 ([(j8 : Int)] : List Int)) fun y6_3 => some (.inl y6_3)) else some (.inl l1)))) (fun l1 => some l1) a0 0 ([] : List Int)) fun l4 => some l4)
def X.i_partsApart_1 (a0 : Bool) : Option Bool :=
  some (!a0)
def X.i_partsApart (fu : Nat) (a0 : Sign) (a1 : Sign) : Option (List Int) :=
  (Option.bind (Option.bind (X.i_Sign_normal fu a0) fun v1_1 => (Option.bind (X.i_Sign_normal fu a1) fun v1_3 => some (v1_1, v1_3))) fun ⟨s1, s2⟩ => (Option.bind (X.i_Hand_same s1.Main s2.Main) fun v2_4 => (bif (s1.Two == s2.Two) then (Option.bind (appG eB v2_4 ([(qHand s1.Other s2.Other)] : List Bool)) fun y2_18 => (Option.bind (X.i_those_bool y2_18 X.i_partsApart_1) fun v3_1 => some v3_1)) else (Option.bind (appG eB v2_4 ([false] : List Bool)) fun y2_18 => (Option.bind (X.i_those_bool y2_18 X.i_partsApart_1) fun v3_1 => some v3_1)))))
def X.i_isPair (fu : Nat) (a0 : Sign) (a1 : Sign) : Option Bool :=
  (Option.bind (X.i_partsApart fu a0 a1) fun v1_2 => some ((List.length v1_2 : Int) == 1))
def X.i_IsMinimalPair (fu : Nat) (a0 : Sign) (a1 : Sign) : Option (Bool × Bool) :=
  (Option.bind (X.i_IsSign fu a0) fun v1_1 => (bif (!v1_1) then some (false, false) else (Option.bind (X.i_IsSign fu a1) fun v1_5 => (bif (!v1_5) then some (false, false) else (Option.bind (X.i_isPair fu a0 a1) fun v3_2 => some (v3_2, true))))))
def X.l_FnExactIsMinimalPair (fu : Nat) (a0 : Sign) (a1 : Sign) : Option Bool :=
  (Option.bind (X.l_szSign a0 1048576) fun v2_2 => (bif decide (v2_2 < 0) then some true else (Option.bind (X.l_szSign a1 v2_2) fun v5_2 => (bif decide (v5_2 < 0) then some true else (Option.bind (X.l_toSign a0) fun v8_1 => (Option.bind (X.l_toSign a1) fun v8_3 => (Option.bind (X.s_IsMinimalPair fu v8_1 v8_3) fun v8_4 => (Option.bind (X.l_toSign a0) fun v9_1 => (Option.bind (X.l_toSign a1) fun v9_3 => (Option.bind (X.i_IsMinimalPair fu v9_1 v9_3) fun v9_4 => (bif (!(v9_4.1 == v8_4.1)) then some false else (bif (!(v9_4.2 == v8_4.2)) then some false else some true))))))))))))
def X.l_szSignS (fu : Nat) (a0 : (List Sign)) (a1 : Int) : Option Int :=
  (bif decide ((wr (a1 - (List.length a0 : Int))) < 0) then some (-1) else (orEl (loopM (fun ⟨n2, n3⟩ => (bif decide (n3 < (List.length a0 : Int)) then (Option.bind (getI a0 n3) fun y7_2 => (Option.bind (X.l_szSign y7_2 n2) fun v7_5 => (bif decide (v7_5 < 0) then some (.inr (.inl (-1))) else some (.inl (v7_5, (wr (n3 + 1))))))) else some (.inr (.inr n2)))) fu ((wr (a1 - (List.length a0 : Int))), 0)) (fun r => some r) (fun n4 => some n4)))
def X.s_paList (fu : Nat) (a0 : (List Sign)) : Option Bool :=
  (orEl (rangeM (fun (j2 : Int) (x3 : Sign) _ => (Option.bind (X.s_siGood fu x3) fun v4_1 => (bif (!v4_1) then some (.inr (.inl false)) else some (.inl ())))) (fun _ => some (.inr ())) a0 0 ()) (fun r => some r) (fun _ => some (decide ((List.length a0 : Int) ≤ 20))))
def X.s_paText (fu : Nat) (a0 : Sign) : Option Str :=
  (bif a0.Two then (Option.bind (X.s_siText fu a0.Main) fun v2_2 => (Option.bind (catS v2_2 ([43] : Str)) fun y2_3 => (Option.bind (X.s_siText fu a0.Other) fun v2_6 => (Option.bind (catS y2_3 v2_6) fun y2_7 => some y2_7)))) else (Option.bind (X.s_siText fu a0.Main) fun v3_2 => some v3_2))
def X.s_SignsText (fu : Nat) (a0 : (List Sign)) : Option (Str × Bool) :=
  (Option.bind (X.s_paList fu a0) fun v1_1 => (bif (!v1_1) then some (([] : Str), false) else (Option.bind (rangeM (fun (j5 : Int) (x6 : Sign) t2 => (Option.bind (X.s_paText fu x6) fun v7_2 => (Option.bind (catS v7_2 ([10] : Str)) fun y7_3 => (Option.bind (catS t2 y7_3) fun y7_4 => some (.inl y7_4))))) (fun t2 => some t2) a0 0 ([] : Str)) fun t3 => some (t3, true))))
def X.l_toSignS (fu : Nat) (a0 : (List Sign)) : Option (List Sign) :=
  (Option.bind (mkI nSign zSign (List.length a0 : Int)) fun y1_2 => (Option.bind (loopM (fun ⟨n1, l2⟩ => (bif decide (n1 < (List.length a0 : Int)) then (Option.bind (getI a0 n1) fun y5_4 => (Option.bind (X.l_toSign y5_4) fun v5_6 => (Option.bind (getI l2 n1) fun y5_7 => some (.inl ((wr (n1 + 1)), (List.set l2 (Int.toNat n1) v5_6)))))) else some (.inr l2))) fu (0, y1_2)) fun l5 => some l5))
def X.slices_IndexFunc_i_Sign_i_Sign (a0 : (List Sign)) (a1 : (Sign → Option Bool)) : Option Int :=
  (orEl (rangeM (fun (j2 : Int) (x3 : Sign) _ => (Option.bind (a1 x3) fun v4_5 => (bif v4_5 then some (.inr (.inl (j2 : Int))) else some (.inl ())))) (fun _ => some (.inr ())) a0 0 ()) (fun r => some r) (fun _ => some (-1)))
def X.slices_ContainsFunc_i_Sign_i_Sign (a0 : (List Sign)) (a1 : (Sign → Option Bool)) : Option Bool :=
  (Option.bind (X.slices_IndexFunc_i_Sign_i_Sign a0 a1) fun v1_2 => some (decide (v1_2 ≥ 0)))
def X.i_allOf_i_Sign_1 (a1 : (Sign → Option Bool)) (a0 : Sign) : Option Bool :=
  (Option.bind (a1 a0) fun v1_2 => some (!v1_2))
def X.i_allOf_i_Sign (a0 : (List Sign)) (a1 : (Sign → Option Bool)) : Option Bool :=
  (Option.bind (X.slices_ContainsFunc_i_Sign_i_Sign a0 (X.i_allOf_i_Sign_1 a1)) fun v1_2 => some (!v1_2))
def X.s_siCompare (fu : Nat) (a0 : Hand) (a1 : Hand) : Option Int :=
  (Option.bind (X.s_siText fu a0) fun v1_1 => (Option.bind (X.s_siText fu a1) fun v1_3 => (bif (slt v1_1 v1_3) then some (-1) else (bif (!(slt v1_1 v1_3 || seq v1_1 v1_3)) then some 1 else some 0))))
def X.s_noCompare (fu : Nat) (a0 : Sign) (a1 : Sign) : Option Int :=
  (Option.bind (Option.bind (X.s_noForm fu a0) fun v1_1 => (Option.bind (X.s_noForm fu a1) fun v1_3 => some (v1_1, v1_3))) fun ⟨s1, s2⟩ => (Option.bind (X.s_siCompare fu s1.Main s2.Main) fun v2_4 => (bif (v2_4 != 0) then some v2_4 else (bif (!s1.Two) then (bif (!s2.Two) then some 0 else some (-1)) else (bif (!s2.Two) then some 1 else (Option.bind (X.s_siCompare fu s1.Other s2.Other) fun v11_4 => some v11_4))))))
def X.s_CompareSigns (fu : Nat) (a0 : Sign) (a1 : Sign) : Option (Int × Bool) :=
  (Option.bind (X.s_siGood fu a0) fun v1_1 => (bif (!v1_1) then some (0, false) else (Option.bind (X.s_siGood fu a1) fun v1_5 => (bif (!v1_5) then some (0, false) else (Option.bind (X.s_noCompare fu a0 a1) fun v3_2 => some (v3_2, true))))))
def X.strings_Compare (a0 a1 : Str) : Option Int := some (Lib.compareBytes a0 a1)
def X.cmp_Or_int (a0 : (List Int)) : Option Int :=
  (orEl (rangeM (fun (j2 : Int) (x3 : Int) _ => (bif (x3 != 0) then some (.inr (.inl x3)) else some (.inl ()))) (fun _ => some (.inr ())) a0 0 ()) (fun r => some r) (fun _ => some 0))
def X.i_compareSigns (a0 : Sign) (a1 : Sign) : Option Int :=
  (bif (!(a0.Two == a1.Two)) then (Option.bind (X.i_Hand_text a0.Main) fun v2_2 => (Option.bind (X.i_Hand_text a1.Main) fun v2_5 => (Option.bind (X.strings_Compare v2_2 v2_5) fun v2_6 => (bif (v2_6 != 0) then some v2_6 else (bif (a0.Two == a1.Two) then some v2_6 else (bif a0.Two then some 1 else some (-1))))))) else (bif (!a0.Two) then (Option.bind (X.i_Hand_text a0.Main) fun v2_2 => (Option.bind (X.i_Hand_text a1.Main) fun v2_5 => (Option.bind (X.strings_Compare v2_2 v2_5) fun v2_6 => (bif (v2_6 != 0) then some v2_6 else (bif (a0.Two == a1.Two) then some v2_6 else (bif a0.Two then some 1 else some (-1))))))) else (Option.bind (X.i_Hand_text a0.Main) fun v8_2 => (Option.bind (X.i_Hand_text a1.Main) fun v8_5 => (Option.bind (X.strings_Compare v8_2 v8_5) fun v8_6 => (Option.bind (X.i_Hand_text a0.Other) fun v8_9 => (Option.bind (X.i_Hand_text a1.Other) fun v8_12 => (Option.bind (X.strings_Compare v8_9 v8_12) fun v8_13 => (Option.bind (X.cmp_Or_int ([v8_6, v8_13] : List Int)) fun v8_15 => some v8_15)))))))))
def X.i_CompareSigns (fu : Nat) (a0 : Sign) (a1 : Sign) : Option (Int × Bool) :=
  (Option.bind (X.i_IsSign fu a0) fun v1_1 => (bif (!v1_1) then some (0, false) else (Option.bind (X.i_IsSign fu a1) fun v1_5 => (bif (!v1_5) then some (0, false) else (Option.bind (X.i_Sign_normal fu a0) fun v3_1 => (Option.bind (X.i_Sign_normal fu a1) fun v3_3 => (Option.bind (X.i_compareSigns v3_1 v3_3) fun v3_4 => some (v3_4, true))))))))
def X.l_FnExactCompareSigns (fu : Nat) (a0 : Sign) (a1 : Sign) : Option Bool :=
  (Option.bind (X.l_szSign a0 1048576) fun v2_2 => (bif decide (v2_2 < 0) then some true else (Option.bind (X.l_szSign a1 v2_2) fun v5_2 => (bif decide (v5_2 < 0) then some true else (Option.bind (X.l_toSign a0) fun v8_1 => (Option.bind (X.l_toSign a1) fun v8_3 => (Option.bind (X.s_CompareSigns fu v8_1 v8_3) fun v8_4 => (Option.bind (X.l_toSign a0) fun v9_1 => (Option.bind (X.l_toSign a1) fun v9_3 => (Option.bind (X.i_CompareSigns fu v9_1 v9_3) fun v9_4 => (bif (v9_4.1 != v8_4.1) then some false else (bif (!(v9_4.2 == v8_4.2)) then some false else some true))))))))))))
def X.l_eqShape (a0 : Shape) (a1 : Shape) : Option Bool :=
  (bif (a0.Thumb != a1.Thumb) then some false else (bif (a0.Index != a1.Index) then some false else (bif (a0.Middle != a1.Middle) then some false else (bif (a0.Ring != a1.Ring) then some false else (bif (a0.Little != a1.Little) then some false else (bif (!(a0.Spread == a1.Spread)) then some false else some true))))))
def X.l_eqOrient (a0 : Orient) (a1 : Orient) : Option Bool :=
  (bif (a0.Palm != a1.Palm) then some false else (bif (a0.Fingers != a1.Fingers) then some false else some true))
def X.l_eqPlace (a0 : Place) (a1 : Place) : Option Bool :=
  (bif (a0.Region != a1.Region) then some false else (bif (a0.Side != a1.Side) then some false else (bif (!(a0.Contact == a1.Contact)) then some false else some true)))
def X.l_eqMove (a0 : Move) (a1 : Move) : Option Bool :=
  (bif (!seq a0.Steps a1.Steps) then some false else (bif (a0.Repeat != a1.Repeat) then some false else some true))
def X.l_eqHand (a0 : Hand) (a1 : Hand) : Option Bool :=
  (Option.bind (X.l_eqShape a0.Shape a1.Shape) fun v1_4 => (bif (!v1_4) then some false else (Option.bind (X.l_eqOrient a0.Orient a1.Orient) fun v3_4 => (bif (!v3_4) then some false else (Option.bind (X.l_eqPlace a0.Place a1.Place) fun v5_4 => (bif (!v5_4) then some false else (Option.bind (X.l_eqMove a0.Move a1.Move) fun v7_4 => (bif (!v7_4) then some false else some true))))))))
def X.l_eqSign (a0 : Sign) (a1 : Sign) : Option Bool :=
  (Option.bind (X.l_eqHand a0.Main a1.Main) fun v1_4 => (bif (!v1_4) then some false else (bif (!(a0.Two == a1.Two)) then some false else (Option.bind (X.l_eqHand a0.Other a1.Other) fun v5_4 => (bif (!v5_4) then some false else some true)))))
def X.l_eqSignS (fu : Nat) (a0 : (List Sign)) (a1 : (List Sign)) : Option Bool :=
  (bif ((List.length a0 : Int) != (List.length a1 : Int)) then some false else (orEl (loopM (fun n2 => (bif decide (n2 < (List.length a0 : Int)) then (Option.bind (getI a0 n2) fun y6_2 => (Option.bind (getI a1 n2) fun y6_6 => (Option.bind (X.l_eqSign y6_2 y6_6) fun v6_8 => (bif (!v6_8) then some (.inr (.inl false)) else some (.inl (wr (n2 + 1))))))) else some (.inr (.inr ())))) fu 0) (fun r => some r) (fun _ => some true)))
def X.s_cmGood (fu : Nat) (a0 : (List Sign)) : Option Bool :=
  (Option.bind (X.s_l1In (List.length a0 : Int) 2 4) fun v1_2 => (bif v1_2 then (Option.bind (X.s_paList fu a0) fun v1_5 => some v1_5) else some false))
def X.s_CompoundText (fu : Nat) (a0 : (List Sign)) : Option (Str × Bool) :=
  (Option.bind (X.s_cmGood fu a0) fun v1_1 => (bif (!v1_1) then some (([] : Str), false) else (Option.bind (rangeM (fun (j5 : Int) (x6 : Sign) t2 => (bif decide ((j5 : Int) > 0) then (Option.bind (catS t2 ([38] : Str)) fun y8_1 => (Option.bind (X.s_paText fu x6) fun v9_2 => (Option.bind (catS y8_1 v9_2) fun y9_3 => some (.inl y9_3)))) else (Option.bind (X.s_paText fu x6) fun v9_2 => (Option.bind (catS t2 v9_2) fun y9_3 => some (.inl y9_3))))) (fun t2 => some t2) a0 0 ([] : Str)) fun t3 => some (t3, true))))
def X.i_Sign_text (a0 : Sign) : Option Str :=
  (bif (!a0.Two) then (Option.bind (X.i_Hand_text a0.Main) fun v2_2 => some v2_2) else (Option.bind (X.i_Hand_text a0.Main) fun v3_2 => (Option.bind (catS v3_2 ([43] : Str)) fun y3_3 => (Option.bind (X.i_Hand_text a0.Other) fun v3_6 => (Option.bind (catS y3_3 v3_6) fun y3_7 => some y3_7)))))
def X.i_areSigns (fu : Nat) (a0 : (List Sign)) (a1 : Int) : Option Bool :=
  (bif decide ((List.length a0 : Int) ≤ a1) then (Option.bind (X.i_allOf_i_Sign a0 (X.i_IsSign fu)) fun v1_6 => some v1_6) else some false)
def X.i_isMade (fu : Nat) (a0 : (List Sign)) : Option Bool :=
  (bif decide ((List.length a0 : Int) ≥ 2) then (Option.bind (X.i_areSigns fu a0 4) fun v1_5 => some v1_5) else some false)
def X.i_CompoundText (fu : Nat) (a0 : (List Sign)) : Option (Str × Bool) :=
  (Option.bind (X.i_isMade fu a0) fun v1_1 => (bif (!v1_1) then some (([] : Str), false) else (Option.bind (rangeM (fun (j9 : Int) (x10 : Sign) l2 => (Option.bind (X.i_Sign_text x10) fun v7_2 => (Option.bind (appG eS l2 ([v7_2] : List Str)) fun y7_4 => some (.inl y7_4)))) (fun l2 => some l2) a0 0 ([] : List Str)) fun l5 => (Option.bind (X.strings_Join l5 ([38] : Str)) fun v9_1 => some (v9_1, true)))))
def X.l_FnExactCompoundText (fu : Nat) (a0 : (List Sign)) : Option Bool :=
  (Option.bind (X.l_szSignS fu a0 1048576) fun v2_2 => (bif decide (v2_2 < 0) then some true else (Option.bind (X.l_toSignS fu a0) fun v5_1 => (Option.bind (X.s_CompoundText fu v5_1) fun v5_2 => (Option.bind (X.l_toSignS fu a0) fun v6_1 => (Option.bind (X.i_CompoundText fu v6_1) fun v7_1 => (bif (!seq v7_1.1 v5_2.1) then some false else (bif (!(v7_1.2 == v5_2.2)) then some false else (Option.bind (X.l_toSignS fu a0) fun v10_2 => (Option.bind (X.l_eqSignS fu v6_1 v10_2) fun v10_3 => (bif (!v10_3) then some false else some true)))))))))))
def X.l_szEntry (a0 : Entry) (a1 : Int) : Option Int :=
  (bif decide ((wr (a1 - (List.length a0.Gloss : Int))) < 0) then some (-1) else (Option.bind (X.l_szSign a0.Sign (wr (a1 - (List.length a0.Gloss : Int)))) fun v4_3 => (bif decide (v4_3 < 0) then some (-1) else some v4_3)))
def X.l_szEntryS (fu : Nat) (a0 : (List Entry)) (a1 : Int) : Option Int :=
  (bif decide ((wr (a1 - (List.length a0 : Int))) < 0) then some (-1) else (orEl (loopM (fun ⟨n2, n3⟩ => (bif decide (n3 < (List.length a0 : Int)) then (Option.bind (getI a0 n3) fun y7_2 => (Option.bind (X.l_szEntry y7_2 n2) fun v7_5 => (bif decide (v7_5 < 0) then some (.inr (.inl (-1))) else some (.inl (v7_5, (wr (n3 + 1))))))) else some (.inr (.inr n2)))) fu ((wr (a1 - (List.length a0 : Int))), 0)) (fun r => some r) (fun n4 => some n4)))
def X.s_enGloss (fu : Nat) (a0 : Str) : Option Bool :=
  (orEl (loopM (fun n1 => (bif decide (n1 < (List.length a0 : Int)) then (Option.bind (getB a0 n1) fun y4_2 => (bif decide (y4_2 < 65) then some (.inr (.inl false)) else (bif decide (y4_2 > 90) then some (.inr (.inl false)) else some (.inl (wr (n1 + 1)))))) else some (.inr (.inr ())))) fu 0) (fun r => some r) (fun _ => (Option.bind (X.s_l1In (List.length a0 : Int) 1 8) fun v6_2 => some v6_2)))
def X.s_enRegion (a0 : Int) : Option Bool :=
  (Option.bind (X.s_l1In a0 0 5) fun v1_1 => some v1_1)
def X.s_enOne (fu : Nat) (a0 : Entry) : Option Bool :=
  (Option.bind (X.s_enGloss fu a0.Gloss) fun v1_2 => (bif v1_2 then (Option.bind (X.s_siGood fu a0.Sign) fun v1_6 => (bif v1_6 then (Option.bind (X.s_enRegion a0.Region) fun v1_11 => (bif v1_11 then (Option.bind (X.s_l1In a0.Uses 0 99999) fun v1_16 => some v1_16) else some false)) else some false)) else some false))
def X.s_enBefore (a0 : Entry) (a1 : Entry) : Option Bool :=
  (bif (slt a0.Gloss a1.Gloss) then some true else (bif (seq a0.Gloss a1.Gloss) then some (decide (a0.Region < a1.Region)) else some false))
def X.s_enGood (fu : Nat) (a0 : (List Entry)) : Option Bool :=
  (orEl (rangeM (fun (j2 : Int) (x3 : Entry) _ => (Option.bind (X.s_enOne fu x3) fun v4_1 => (bif (!v4_1) then some (.inr (.inl false)) else (bif decide ((j2 : Int) > 0) then (Option.bind (getI a0 (wr ((j2 : Int) - 1))) fun y4_10 => (Option.bind (X.s_enBefore y4_10 x3) fun v4_13 => (bif (!v4_13) then some (.inr (.inl false)) else some (.inl ())))) else some (.inl ()))))) (fun _ => some (.inr ())) a0 0 ()) (fun r => some r) (fun _ => some (decide ((List.length a0 : Int) ≤ 16))))
def X.s_enFor (a0 : (List Entry)) (a1 : Str) (a2 : Int) : Option Int :=
  (Option.bind (rangeM (fun (j4 : Int) (x5 : Entry) n1 => (bif (seq x5.Gloss a1) then (bif (x5.Region == a2) then some (.inl (j4 : Int)) else (bif (x5.Region == 0) then (bif decide (n1 < 0) then some (.inl (j4 : Int)) else some (.inl n1)) else some (.inl n1))) else some (.inl n1))) (fun n1 => some n1) a0 0 (-1)) fun n2 => some n2)
def X.s_EntryFor (fu : Nat) (a0 : (List Entry)) (a1 : Str) (a2 : Int) : Option (Int × Bool) :=
  (Option.bind (X.s_enGood fu a0) fun v1_1 => (bif (!v1_1) then some (0, false) else (Option.bind (X.s_enGloss fu a1) fun v1_5 => (bif (!v1_5) then some (0, false) else (Option.bind (X.s_enRegion a2) fun v1_10 => (bif (!v1_10) then some (0, false) else (Option.bind (X.s_enFor a0 a1 a2) fun v3_3 => (bif decide (v3_3 < 0) then some (0, false) else some (v3_3, true)))))))))
def X.l_toEntry (a0 : Entry) : Option Entry :=
  (Option.bind (X.l_toSign a0.Sign) fun v3_2 => some ({ a0 with Sign := v3_2 }))
def X.l_toEntryS (fu : Nat) (a0 : (List Entry)) : Option (List Entry) :=
  (Option.bind (mkI nEntry zEntry (List.length a0 : Int)) fun y1_2 => (Option.bind (loopM (fun ⟨n1, l2⟩ => (bif decide (n1 < (List.length a0 : Int)) then (Option.bind (getI a0 n1) fun y5_4 => (Option.bind (X.l_toEntry y5_4) fun v5_6 => (Option.bind (getI l2 n1) fun y5_7 => some (.inl ((wr (n1 + 1)), (List.set l2 (Int.toNat n1) v5_6)))))) else some (.inr l2))) fu (0, y1_2)) fun l5 => some l5))
def X.i_isWordOf (a0 : Str) (a1 : Str) : Option Bool :=
  (Option.bind (X.i_within (List.length a0 : Int) 1 8) fun v1_2 => (bif v1_2 then (Option.bind (X.i_hasOnly a0 a1) fun v1_6 => some v1_6) else some false))
def X.i_IsGloss (a0 : Str) : Option Bool :=
  (Option.bind (X.i_isWordOf a0 ([65, 66, 67, 68, 69, 70, 71, 72, 73, 74, 75, 76, 77, 78, 79, 80, 81, 82, 83, 84, 85, 86, 87, 88, 89, 90] : Str)) fun v1_1 => some v1_1)
def X.i_isEntry (fu : Nat) (a0 : Entry) : Option Bool :=
  (Option.bind (X.i_IsGloss a0.Gloss) fun v1_2 => (bif v1_2 then (Option.bind (X.i_IsSign fu a0.Sign) fun v1_6 => (bif v1_6 then (Option.bind (X.i_within a0.Region 0 5) fun v1_11 => (bif v1_11 then (Option.bind (X.i_within a0.Uses 0 99999) fun v1_16 => some v1_16) else some false)) else some false)) else some false))
def X.cmp_isNaN_int (a0 : Int) : Option Bool :=
  some (a0 != a0)
def X.cmp_Compare_int (a0 : Int) (a1 : Int) : Option Int :=
  (Option.bind (X.cmp_isNaN_int a0) fun v1_1 => (Option.bind (X.cmp_isNaN_int a1) fun v2_1 => (bif v1_1 then (bif v2_1 then some 0 else some (-1)) else (bif v2_1 then some 1 else (bif decide (a0 < a1) then some (-1) else (bif decide (a0 > a1) then some 1 else some 0))))))
def X.i_compareEntries (a0 : Entry) (a1 : Entry) : Option Int :=
  (Option.bind (X.strings_Compare a0.Gloss a1.Gloss) fun v1_4 => (Option.bind (X.cmp_Compare_int a0.Region a1.Region) fun v1_9 => (Option.bind (X.cmp_Or_int ([v1_4, v1_9] : List Int)) fun v1_11 => some v1_11)))
def X.i_AreEntries (fu : Nat) (a0 : (List Entry)) : Option Bool :=
  (orEl (rangeM (fun (j2 : Int) (x3 : Entry) _ => (Option.bind (X.i_isEntry fu x3) fun v4_1 => (bif (!v4_1) then some (.inr (.inl false)) else (bif decide ((j2 : Int) > 0) then (Option.bind (getI a0 (wr ((j2 : Int) - 1))) fun y4_10 => (Option.bind (X.i_compareEntries y4_10 x3) fun v4_13 => (bif decide (v4_13 ≥ 0) then some (.inr (.inl false)) else some (.inl ())))) else some (.inl ()))))) (fun _ => some (.inr ())) a0 0 ()) (fun r => some r) (fun _ => some (decide ((List.length a0 : Int) ≤ 16))))
def X.slices_IndexFunc_i_Entry_i_Entry (a0 : (List Entry)) (a1 : (Entry → Option Bool)) : Option Int :=
  (orEl (rangeM (fun (j2 : Int) (x3 : Entry) _ => (Option.bind (a1 x3) fun v4_5 => (bif v4_5 then some (.inr (.inl (j2 : Int))) else some (.inl ())))) (fun _ => some (.inr ())) a0 0 ()) (fun r => some r) (fun _ => some (-1)))
def X.i_entryFor_1 (a1 : Str) (a2 : Int) (a0 : Entry) : Option Bool :=
  (bif (seq a0.Gloss a1) then some (a0.Region == a2) else some false)
def X.i_entryFor (a0 : (List Entry)) (a1 : Str) (a2 : Int) : Option Int :=
  (orEl (rangeM (fun (j2 : Int) (x3 : Int) _ => (Option.bind (X.slices_IndexFunc_i_Entry_i_Entry a0 (X.i_entryFor_1 a1 x3)) fun v4_2 => (bif decide (v4_2 ≥ 0) then some (.inr (.inl v4_2)) else some (.inl ())))) (fun _ => some (.inr ())) ([a2, 0] : List Int) 0 ()) (fun r => some r) (fun _ => some (-1)))
def X.i_EntryFor (fu : Nat) (a0 : (List Entry)) (a1 : Str) (a2 : Int) : Option (Int × Bool) :=
  (Option.bind (X.i_AreEntries fu a0) fun v1_1 => (bif (!v1_1) then some (0, false) else (Option.bind (X.i_IsGloss a1) fun v1_5 => (bif (!v1_5) then some (0, false) else (Option.bind (X.i_within a2 0 5) fun v1_10 => (bif (!v1_10) then some (0, false) else (Option.bind (X.i_entryFor a0 a1 a2) fun v3_3 => (bif decide (v3_3 < 0) then some (0, false) else some (v3_3, true)))))))))
def X.l_eqEntry (a0 : Entry) (a1 : Entry) : Option Bool :=
  (bif (!seq a0.Gloss a1.Gloss) then some false else (Option.bind (X.l_eqSign a0.Sign a1.Sign) fun v3_4 => (bif (!v3_4) then some false else (bif (a0.Region != a1.Region) then some false else (bif (a0.Uses != a1.Uses) then some false else some true)))))
def X.l_eqEntryS (fu : Nat) (a0 : (List Entry)) (a1 : (List Entry)) : Option Bool :=
  (bif ((List.length a0 : Int) != (List.length a1 : Int)) then some false else (orEl (loopM (fun n2 => (bif decide (n2 < (List.length a0 : Int)) then (Option.bind (getI a0 n2) fun y6_2 => (Option.bind (getI a1 n2) fun y6_6 => (Option.bind (X.l_eqEntry y6_2 y6_6) fun v6_8 => (bif (!v6_8) then some (.inr (.inl false)) else some (.inl (wr (n2 + 1))))))) else some (.inr (.inr ())))) fu 0) (fun r => some r) (fun _ => some true)))
def X.l_FnExactEntryFor (fu : Nat) (a0 : (List Entry)) (a1 : Str) (a2 : Int) : Option Bool :=
  (bif decide ((List.length a1 : Int) > 1048576) then some true else (Option.bind (X.l_szEntryS fu a0 1048576) fun v4_2 => (bif decide (v4_2 < 0) then some true else (Option.bind (X.l_toEntryS fu a0) fun v7_1 => (Option.bind (X.s_EntryFor fu v7_1 a1 a2) fun v7_4 => (Option.bind (X.l_toEntryS fu a0) fun v8_1 => (Option.bind (X.i_EntryFor fu v8_1 a1 a2) fun v9_3 => (bif (v9_3.1 != v7_4.1) then some false else (bif (!(v9_3.2 == v7_4.2)) then some false else (Option.bind (X.l_toEntryS fu a0) fun v12_2 => (Option.bind (X.l_eqEntryS fu v8_1 v12_2) fun v12_3 => (bif (!v12_3) then some false else some true))))))))))))
def X.s_noList (fu : Nat) (a0 : (List Sign)) : Option Bool :=
  (orEl (rangeM (fun (j2 : Int) (x3 : Sign) _ => (Option.bind (X.s_siGood fu x3) fun v4_1 => (bif (!v4_1) then some (.inr (.inl false)) else some (.inl ())))) (fun _ => some (.inr ())) a0 0 ()) (fun r => some r) (fun _ => some (decide ((List.length a0 : Int) ≤ 16))))
def X.s_PartsApart (fu : Nat) (a0 : Sign) (a1 : Sign) : Option ((List Int) × Bool) :=
  (Option.bind (X.s_siGood fu a0) fun v1_1 => (bif (!v1_1) then some (([] : List _), false) else (Option.bind (X.s_siGood fu a1) fun v1_5 => (bif (!v1_5) then some (([] : List _), false) else (Option.bind (X.s_prApart fu a0 a1) fun v3_2 => some (v3_2, true))))))
def X.i_PartsApart (fu : Nat) (a0 : Sign) (a1 : Sign) : Option ((List Int) × Bool) :=
  (Option.bind (X.i_IsSign fu a0) fun v1_1 => (bif (!v1_1) then some (([] : List _), false) else (Option.bind (X.i_IsSign fu a1) fun v1_5 => (bif (!v1_5) then some (([] : List _), false) else (Option.bind (X.i_partsApart fu a0 a1) fun v3_2 => some (v3_2, true))))))
def X.l_eqIntS (fu : Nat) (a0 : (List Int)) (a1 : (List Int)) : Option Bool :=
  (bif ((List.length a0 : Int) != (List.length a1 : Int)) then some false else (orEl (loopM (fun n2 => (bif decide (n2 < (List.length a0 : Int)) then (Option.bind (getI a0 n2) fun y6_2 => (Option.bind (getI a1 n2) fun y6_6 => (bif (y6_2 != y6_6) then some (.inr (.inl false)) else some (.inl (wr (n2 + 1)))))) else some (.inr (.inr ())))) fu 0) (fun r => some r) (fun _ => some true)))
def X.s_enUses (a0 : (List Entry)) (a1 : Str) : Option Int :=
  (Option.bind (rangeM (fun (j4 : Int) (x5 : Entry) n1 => (bif (seq x5.Gloss a1) then some (.inl (wr (n1 + x5.Uses))) else some (.inl n1))) (fun n1 => some n1) a0 0 0) fun n2 => some n2)
def X.s_UsesOf (fu : Nat) (a0 : (List Entry)) (a1 : Str) : Option (Int × Bool) :=
  (Option.bind (X.s_enGood fu a0) fun v1_1 => (bif (!v1_1) then some (0, false) else (Option.bind (X.s_enGloss fu a1) fun v1_5 => (bif (!v1_5) then some (0, false) else (Option.bind (X.s_enUses a0 a1) fun v3_2 => some (v3_2, true))))))
def X.i_those_i_Entry (a0 : (List Entry)) (a1 : (Entry → Option Bool)) : Option (List Int) :=
  (Option.bind (rangeM (fun (j8 : Int) (x9 : Entry) l1 => (Option.bind (a1 x9) fun v5_2 => (bif v5_2 then (Option.bind (appG (eI .i64) l1 ([(j8 : Int)] : List Int)) fun y6_3 => some (.inl y6_3)) else some (.inl l1)))) (fun l1 => some l1) a0 0 ([] : List Int)) fun l4 => some l4)
def X.i_variants_1 (a1 : Str) (a0 : Entry) : Option Bool :=
  some (seq a0.Gloss a1)
def X.i_variants (a0 : (List Entry)) (a1 : Str) : Option (List Int) :=
  (Option.bind (X.i_those_i_Entry a0 (X.i_variants_1 a1)) fun v1_2 => some v1_2)
def X.i_usesOf (a0 : (List Entry)) (a1 : Str) : Option Int :=
  (Option.bind (X.i_variants a0 a1) fun v2_2 => (Option.bind (rangeM (fun (j4 : Int) (x5 : Int) n1 => (Option.bind (getI a0 x5) fun y5_3 => some (.inl (wr (n1 + y5_3.Uses))))) (fun n1 => some n1) v2_2 0 0) fun n2 => some n2))
def X.i_UsesOf (fu : Nat) (a0 : (List Entry)) (a1 : Str) : Option (Int × Bool) :=
  (Option.bind (X.i_AreEntries fu a0) fun v1_1 => (bif (!v1_1) then some (0, false) else (Option.bind (X.i_IsGloss a1) fun v1_5 => (bif (!v1_5) then some (0, false) else (Option.bind (X.i_usesOf a0 a1) fun v3_2 => some (v3_2, true))))))
def X.l_FnExactUsesOf (fu : Nat) (a0 : (List Entry)) (a1 : Str) : Option Bool :=
  (bif decide ((List.length a1 : Int) > 1048576) then some true else (Option.bind (X.l_szEntryS fu a0 1048576) fun v4_2 => (bif decide (v4_2 < 0) then some true else (Option.bind (X.l_toEntryS fu a0) fun v7_1 => (Option.bind (X.s_UsesOf fu v7_1 a1) fun v7_3 => (Option.bind (X.l_toEntryS fu a0) fun v8_1 => (Option.bind (X.i_UsesOf fu v8_1 a1) fun v9_2 => (bif (v9_2.1 != v7_3.1) then some false else (bif (!(v9_2.2 == v7_3.2)) then some false else (Option.bind (X.l_toEntryS fu a0) fun v12_2 => (Option.bind (X.l_eqEntryS fu v8_1 v12_2) fun v12_3 => (bif (!v12_3) then some false else some true))))))))))))
def X.s_NormalSign (fu : Nat) (a0 : Sign) : Option (Sign × Bool) :=
  (Option.bind (X.s_siGood fu a0) fun v1_1 => (bif (!v1_1) then some (zSign, false) else (Option.bind (X.s_noForm fu a0) fun v3_1 => some (v3_1, true))))
def X.i_NormalSign (fu : Nat) (a0 : Sign) : Option (Sign × Bool) :=
  (Option.bind (X.i_IsSign fu a0) fun v1_1 => (bif (!v1_1) then some (zSign, false) else (Option.bind (X.i_Sign_normal fu a0) fun v3_1 => some (v3_1, true))))
def X.l_FnExactNormalSign (fu : Nat) (a0 : Sign) : Option Bool :=
  (Option.bind (X.l_szSign a0 1048576) fun v2_2 => (bif decide (v2_2 < 0) then some true else (Option.bind (X.l_toSign a0) fun v5_1 => (Option.bind (X.s_NormalSign fu v5_1) fun v5_2 => (Option.bind (X.l_toSign a0) fun v6_1 => (Option.bind (X.i_NormalSign fu v6_1) fun v6_2 => (Option.bind (X.l_eqSign v6_2.1 v5_2.1) fun v7_2 => (bif (!v7_2) then some false else (bif (!(v6_2.2 == v5_2.2)) then some false else some true)))))))))
def X.l_big (a0 : (List Int)) (a1 : (List Int)) : Option Bool :=
  (bif decide ((List.length a0 : Int) > 1048576) then some true else some (decide ((List.length a1 : Int) > (wr (1048576 - (List.length a0 : Int))))))
def X.l_markText (fu : Nat) (a0 : Int) : Option Str :=
  (bif decide (a0 ≤ 0) then some ([109, 48] : Str) else (Option.bind (loopM (fun ⟨n2, t3⟩ => (bif decide (n2 > 0) then (Option.bind (catS (strOf ([(wk .u8 (wr (48 + (Int.tmod n2 10))))] : List Int)) t3) fun y5_7 => some (.inl ((wr (Int.tdiv n2 10)), y5_7))) else some (.inr t3))) fu (a0, ([] : Str))) fun t4 => (Option.bind (catS ([109] : Str) t4) fun y7_1 => some y7_1)))
def X.l_heldSignS (fu : Nat) (a0 : (List Sign)) (a1 : Int) : Option Int :=
  (orEl (loopM (fun ⟨n1, n2⟩ => (bif decide (n2 < (List.length a0 : Int)) then (Option.bind (getI a0 n2) fun y4_2 => (bif (y4_2.Main.Shape.Thumb != n1) then some (.inr (.inl (-1))) else (bif (y4_2.Main.Shape.Index != (wr (n1 + 1))) then some (.inr (.inl (-1))) else (bif (y4_2.Main.Shape.Middle != (wr ((wr (n1 + 1)) + 1))) then some (.inr (.inl (-1))) else (bif (y4_2.Main.Shape.Ring != (wr ((wr ((wr (n1 + 1)) + 1)) + 1))) then some (.inr (.inl (-1))) else (bif (y4_2.Main.Shape.Little != (wr ((wr ((wr ((wr (n1 + 1)) + 1)) + 1)) + 1))) then some (.inr (.inl (-1))) else (bif (!(y4_2.Main.Shape.Spread == ((Int.tmod (wr ((wr ((wr ((wr ((wr (n1 + 1)) + 1)) + 1)) + 1)) + 1)) 3) == 0))) then some (.inr (.inl (-1))) else (bif (y4_2.Main.Orient.Palm != (wr ((wr ((wr ((wr ((wr ((wr (n1 + 1)) + 1)) + 1)) + 1)) + 1)) + 1))) then some (.inr (.inl (-1))) else (bif (y4_2.Main.Orient.Fingers != (wr ((wr ((wr ((wr ((wr ((wr ((wr (n1 + 1)) + 1)) + 1)) + 1)) + 1)) + 1)) + 1))) then some (.inr (.inl (-1))) else (bif (y4_2.Main.Place.Region != (wr ((wr ((wr ((wr ((wr ((wr ((wr ((wr (n1 + 1)) + 1)) + 1)) + 1)) + 1)) + 1)) + 1)) + 1))) then some (.inr (.inl (-1))) else (bif (y4_2.Main.Place.Side != (wr ((wr ((wr ((wr ((wr ((wr ((wr ((wr ((wr (n1 + 1)) + 1)) + 1)) + 1)) + 1)) + 1)) + 1)) + 1)) + 1))) then some (.inr (.inl (-1))) else (bif (!(y4_2.Main.Place.Contact == ((Int.tmod (wr ((wr ((wr ((wr ((wr ((wr ((wr ((wr ((wr ((wr (n1 + 1)) + 1)) + 1)) + 1)) + 1)) + 1)) + 1)) + 1)) + 1)) + 1)) 3) == 0))) then some (.inr (.inl (-1))) else (Option.bind (X.l_markText fu (wr ((wr ((wr ((wr ((wr ((wr ((wr ((wr ((wr ((wr ((wr (n1 + 1)) + 1)) + 1)) + 1)) + 1)) + 1)) + 1)) + 1)) + 1)) + 1)) + 1))) fun v37_8 => (bif (!seq y4_2.Main.Move.Steps v37_8) then some (.inr (.inl (-1))) else (bif (y4_2.Main.Move.Repeat != (wr ((wr ((wr ((wr ((wr ((wr ((wr ((wr ((wr ((wr ((wr ((wr (n1 + 1)) + 1)) + 1)) + 1)) + 1)) + 1)) + 1)) + 1)) + 1)) + 1)) + 1)) + 1))) then some (.inr (.inl (-1))) else (bif (!(y4_2.Two == ((Int.tmod (wr ((wr ((wr ((wr ((wr ((wr ((wr ((wr ((wr ((wr ((wr ((wr ((wr (n1 + 1)) + 1)) + 1)) + 1)) + 1)) + 1)) + 1)) + 1)) + 1)) + 1)) + 1)) + 1)) + 1)) 3) == 0))) then some (.inr (.inl (-1))) else (bif (y4_2.Other.Shape.Thumb != (wr ((wr ((wr ((wr ((wr ((wr ((wr ((wr ((wr ((wr ((wr ((wr ((wr ((wr (n1 + 1)) + 1)) + 1)) + 1)) + 1)) + 1)) + 1)) + 1)) + 1)) + 1)) + 1)) + 1)) + 1)) + 1))) then some (.inr (.inl (-1))) else (bif (y4_2.Other.Shape.Index != (wr ((wr ((wr ((wr ((wr ((wr ((wr ((wr ((wr ((wr ((wr ((wr ((wr ((wr ((wr (n1 + 1)) + 1)) + 1)) + 1)) + 1)) + 1)) + 1)) + 1)) + 1)) + 1)) + 1)) + 1)) + 1)) + 1)) + 1))) then some (.inr (.inl (-1))) else (bif (y4_2.Other.Shape.Middle != (wr ((wr ((wr ((wr ((wr ((wr ((wr ((wr ((wr ((wr ((wr ((wr ((wr ((wr ((wr ((wr (n1 + 1)) + 1)) + 1)) + 1)) + 1)) + 1)) + 1)) + 1)) + 1)) + 1)) + 1)) + 1)) + 1)) + 1)) + 1)) + 1))) then some (.inr (.inl (-1))) else (bif (y4_2.Other.Shape.Ring != (wr ((wr ((wr ((wr ((wr ((wr ((wr ((wr ((wr ((wr ((wr ((wr ((wr ((wr ((wr ((wr ((wr (n1 + 1)) + 1)) + 1)) + 1)) + 1)) + 1)) + 1)) + 1)) + 1)) + 1)) + 1)) + 1)) + 1)) + 1)) + 1)) + 1)) + 1))) then some (.inr (.inl (-1))) else (bif (y4_2.Other.Shape.Little != (wr ((wr ((wr ((wr ((wr ((wr ((wr ((wr ((wr ((wr ((wr ((wr ((wr ((wr ((wr ((wr ((wr ((wr (n1 + 1)) + 1)) + 1)) + 1)) + 1)) + 1)) + 1)) + 1)) + 1)) + 1)) + 1)) + 1)) + 1)) + 1)) + 1)) + 1)) + 1)) + 1))) then some (.inr (.inl (-1))) else (bif (!(y4_2.Other.Shape.Spread == ((Int.tmod (wr ((wr ((wr ((wr ((wr ((wr ((wr ((wr ((wr ((wr ((wr ((wr ((wr ((wr ((wr ((wr ((wr ((wr ((wr (n1 + 1)) + 1)) + 1)) + 1)) + 1)) + 1)) + 1)) + 1)) + 1)) + 1)) + 1)) + 1)) + 1)) + 1)) + 1)) + 1)) + 1)) + 1)) + 1)) 3) == 0))) then some (.inr (.inl (-1))) else (bif (y4_2.Other.Orient.Palm != (wr ((wr ((wr ((wr ((wr ((wr ((wr ((wr ((wr ((wr ((wr ((wr ((wr ((wr ((wr ((wr ((wr ((wr ((wr ((wr (n1 + 1)) + 1)) + 1)) + 1)) + 1)) + 1)) + 1)) + 1)) + 1)) + 1)) + 1)) + 1)) + 1)) + 1)) + 1)) + 1)) + 1)) + 1)) + 1)) + 1))) then some (.inr (.inl (-1))) else (bif (y4_2.Other.Orient.Fingers != (wr ((wr ((wr ((wr ((wr ((wr ((wr ((wr ((wr ((wr ((wr ((wr ((wr ((wr ((wr ((wr ((wr ((wr ((wr ((wr ((wr (n1 + 1)) + 1)) + 1)) + 1)) + 1)) + 1)) + 1)) + 1)) + 1)) + 1)) + 1)) + 1)) + 1)) + 1)) + 1)) + 1)) + 1)) + 1)) + 1)) + 1)) + 1))) then some (.inr (.inl (-1))) else (bif (y4_2.Other.Place.Region != (wr ((wr ((wr ((wr ((wr ((wr ((wr ((wr ((wr ((wr ((wr ((wr ((wr ((wr ((wr ((wr ((wr ((wr ((wr ((wr ((wr ((wr (n1 + 1)) + 1)) + 1)) + 1)) + 1)) + 1)) + 1)) + 1)) + 1)) + 1)) + 1)) + 1)) + 1)) + 1)) + 1)) + 1)) + 1)) + 1)) + 1)) + 1)) + 1)) + 1))) then some (.inr (.inl (-1))) else (bif (y4_2.Other.Place.Side != (wr ((wr ((wr ((wr ((wr ((wr ((wr ((wr ((wr ((wr ((wr ((wr ((wr ((wr ((wr ((wr ((wr ((wr ((wr ((wr ((wr ((wr ((wr (n1 + 1)) + 1)) + 1)) + 1)) + 1)) + 1)) + 1)) + 1)) + 1)) + 1)) + 1)) + 1)) + 1)) + 1)) + 1)) + 1)) + 1)) + 1)) + 1)) + 1)) + 1)) + 1)) + 1))) then some (.inr (.inl (-1))) else (bif (!(y4_2.Other.Place.Contact == ((Int.tmod (wr ((wr ((wr ((wr ((wr ((wr ((wr ((wr ((wr ((wr ((wr ((wr ((wr ((wr ((wr ((wr ((wr ((wr ((wr ((wr ((wr ((wr ((wr ((wr (n1 + 1)) + 1)) + 1)) + 1)) + 1)) + 1)) + 1)) + 1)) + 1)) + 1)) + 1)) + 1)) + 1)) + 1)) + 1)) + 1)) + 1)) + 1)) + 1)) + 1)) + 1)) + 1)) + 1)) + 1)) 3) == 0))) then some (.inr (.inl (-1))) else (Option.bind (X.l_markText fu (wr ((wr ((wr ((wr ((wr ((wr ((wr ((wr ((wr ((wr ((wr ((wr ((wr ((wr ((wr ((wr ((wr ((wr ((wr ((wr ((wr ((wr ((wr ((wr ((wr (n1 + 1)) + 1)) + 1)) + 1)) + 1)) + 1)) + 1)) + 1)) + 1)) + 1)) + 1)) + 1)) + 1)) + 1)) + 1)) + 1)) + 1)) + 1)) + 1)) + 1)) + 1)) + 1)) + 1)) + 1)) + 1))) fun v79_8 => (bif (!seq y4_2.Other.Move.Steps v79_8) then some (.inr (.inl (-1))) else (bif (y4_2.Other.Move.Repeat != (wr ((wr ((wr ((wr ((wr ((wr ((wr ((wr ((wr ((wr ((wr ((wr ((wr ((wr ((wr ((wr ((wr ((wr ((wr ((wr ((wr ((wr ((wr ((wr ((wr ((wr (n1 + 1)) + 1)) + 1)) + 1)) + 1)) + 1)) + 1)) + 1)) + 1)) + 1)) + 1)) + 1)) + 1)) + 1)) + 1)) + 1)) + 1)) + 1)) + 1)) + 1)) + 1)) + 1)) + 1)) + 1)) + 1)) + 1))) then some (.inr (.inl (-1))) else some (.inl ((wr ((wr ((wr ((wr ((wr ((wr ((wr ((wr ((wr ((wr ((wr ((wr ((wr ((wr ((wr ((wr ((wr ((wr ((wr ((wr ((wr ((wr ((wr ((wr ((wr ((wr ((wr (n1 + 1)) + 1)) + 1)) + 1)) + 1)) + 1)) + 1)) + 1)) + 1)) + 1)) + 1)) + 1)) + 1)) + 1)) + 1)) + 1)) + 1)) + 1)) + 1)) + 1)) + 1)) + 1)) + 1)) + 1)) + 1)) + 1)) + 1)), (wr (n2 + 1)))))))))))))))))))))))))))))))))) else some (.inr (.inr n1)))) fu (a1, 0)) (fun r => some r) (fun n3 => some n3))
def X.l_heldIntS (fu : Nat) (a0 : (List Int)) (a1 : Int) : Option Int :=
  (orEl (loopM (fun ⟨n1, n2⟩ => (bif decide (n2 < (List.length a0 : Int)) then (Option.bind (getI a0 n2) fun y4_2 => (bif (y4_2 != n1) then some (.inr (.inl (-1))) else some (.inl ((wr (n1 + 1)), (wr (n2 + 1)))))) else some (.inr (.inr n1)))) fu (a1, 0)) (fun r => some r) (fun n3 => some n3))
def X.i_TwoHands (fu : Nat) (a0 : Hand) (a1 : Hand) : Option (Sign × Bool) :=
  (Option.bind (X.i_IsSign fu (⟨a0, true, a1⟩ : Sign)) fun v2_1 => (bif (!v2_1) then some (zSign, false) else some ((⟨a0, true, a1⟩ : Sign), true)))
def X.s_TwoHands (fu : Nat) (a0 : Hand) (a1 : Hand) : Option (Sign × Bool) :=
  (Option.bind (X.s_siGood fu (⟨a0, true, a1⟩ : Sign)) fun v2_1 => (bif (!v2_1) then some (zSign, false) else some ((⟨a0, true, a1⟩ : Sign), true)))
def X.i_BrokenRule (fu : Nat) (a0 : Hand) (a1 : Hand) : Option (Int × Bool) :=
  (Option.bind (X.i_IsHand a0) fun v1_1 => (bif (!v1_1) then some (0, false) else (Option.bind (X.i_IsHand a1) fun v1_5 => (bif (!v1_5) then some (0, false) else (Option.bind (X.i_keepRules fu a0 a1) fun v3_2 => (bif v3_2 then some (0, true) else (Option.bind (X.i_Hand_moves a1) fun v5_1 => (bif (!v5_1) then some (4, true) else (Option.bind (X.i_Hand_moves a0) fun v7_1 => (bif (!v7_1) then some (3, true) else (bif (!qShape a0.Shape a1.Shape) then some (1, true) else (bif (!qOrient a1.Orient a0.Orient) then (Option.bind (X.i_Orient_mirrored a0.Orient) fun v11_10 => (bif (!qOrient a1.Orient v11_10) then some (2, true) else some (3, true))) else some (3, true)))))))))))))
def X.s_BrokenRule (fu : Nat) (a0 : Hand) (a1 : Hand) : Option (Int × Bool) :=
  (Option.bind (X.s_siHand fu a0) fun v1_1 => (bif (!v1_1) then some (0, false) else (Option.bind (X.s_siHand fu a1) fun v1_5 => (bif (!v1_5) then some (0, false) else (Option.bind (X.s_siBroken fu a0 a1) fun v3_2 => some (v3_2, true))))))
def X.i_KindOfSign (fu : Nat) (a0 : Sign) : Option (Int × Bool) :=
  (Option.bind (X.i_IsSign fu a0) fun v1_1 => (bif (!v1_1) then some (0, false) else (Option.bind (X.i_Sign_kind a0) fun v3_1 => some (v3_1, true))))
def X.s_KindOfSign (fu : Nat) (a0 : Sign) : Option (Int × Bool) :=
  (Option.bind (X.s_siGood fu a0) fun v1_1 => (bif (!v1_1) then some (0, false) else (Option.bind (X.s_siKind a0) fun v3_1 => some (v3_1, true))))
def X.i_DropOther (fu : Nat) (a0 : Sign) : Option (Sign × Bool) :=
  (Option.bind (X.i_IsSign fu a0) fun v1_1 => (bif (!v1_1) then some (zSign, false) else (Option.bind (X.i_Sign_kind a0) fun v1_5 => (bif (v1_5 == 0) then some (zSign, false) else (Option.bind (X.i_Sign_kind a0) fun v1_10 => (bif (v1_10 == 3) then some (zSign, false) else some ({ zSign with Main := a0.Main }, true)))))))
def X.i_OneHand (a0 : Hand) : Option (Sign × Bool) :=
  (Option.bind (X.i_IsHand a0) fun v1_1 => (bif (!v1_1) then some (zSign, false) else some ({ zSign with Main := a0 }, true)))
def X.s_DropOther (fu : Nat) (a0 : Sign) : Option (Sign × Bool) :=
  (Option.bind (X.s_siGood fu a0) fun v1_1 => (bif (!v1_1) then some (zSign, false) else (Option.bind (X.s_siKind a0) fun v1_5 => (bif (v1_5 == 0) then some (zSign, false) else (Option.bind (X.s_siKind a0) fun v1_10 => (bif (v1_10 == 3) then some (zSign, false) else some ({ zSign with Main := a0.Main }, true)))))))
def X.i_Sign_steps (a0 : Sign) : Option Int :=
  (Option.bind (X.i_Move_all a0.Main.Move) fun v1_3 => (Option.bind (X.i_Move_all a0.Other.Move) fun v1_8 => some (if (List.length v1_8 : Int) > (List.length v1_3 : Int) then (List.length v1_8 : Int) else (List.length v1_3 : Int))))
def X.i_StepsOfSign (fu : Nat) (a0 : Sign) : Option (Int × Bool) :=
  (Option.bind (X.i_IsSign fu a0) fun v1_1 => (bif (!v1_1) then some (0, false) else (Option.bind (X.i_Sign_steps a0) fun v3_1 => some (v3_1, true))))
def X.s_l1Most (a0 : Int) (a1 : Int) : Option Int :=
  (bif decide (a0 > a1) then some a0 else some a1)
def X.s_StepsOfSign (fu : Nat) (a0 : Sign) : Option (Int × Bool) :=
  (Option.bind (X.s_siGood fu a0) fun v1_1 => (bif (!v1_1) then some (0, false) else (Option.bind (X.s_mvAll fu a0.Main.Move) fun v3_3 => (Option.bind (X.s_mvAll fu a0.Other.Move) fun v3_8 => (Option.bind (X.s_l1Most (List.length v3_3 : Int) (List.length v3_8 : Int)) fun v3_10 => some (v3_10, true))))))
def X.i_AllSteps (a0 : Move) : Option (Str × Bool) :=
  (Option.bind (X.i_IsMove a0) fun v1_1 => (bif (!v1_1) then some (([] : Str), false) else (Option.bind (X.i_Move_all a0) fun v3_1 => some (v3_1, true))))
def X.s_OneHand (fu : Nat) (a0 : Hand) : Option (Sign × Bool) :=
  (Option.bind (X.s_siHand fu a0) fun v1_1 => (bif (!v1_1) then some (zSign, false) else some ({ zSign with Main := a0 }, true)))
def X.s_cmRoot (fu : Nat) (a0 : Str) : Option Str :=
  (orEl (loopM (fun n1 => (bif decide (n1 < (List.length a0 : Int)) then (Option.bind (modI (List.length a0 : Int) n1) fun y4_3 => (bif (y4_3 == 0) then (Option.bind (cutS a0 0 n1) fun y4_8 => (Option.bind (divI (List.length a0 : Int) n1) fun y4_12 => (Option.bind (X.s_mvTimes fu y4_8 y4_12) fun v4_13 => (bif (seq v4_13 a0) then (Option.bind (cutS a0 0 n1) fun y5_2 => some (.inr (.inl y5_2))) else some (.inl (wr (n1 + 1))))))) else some (.inl (wr (n1 + 1))))) else some (.inr (.inr ())))) fu 1) (fun r => some r) (fun _ => some a0))
def X.s_cmReduce (fu : Nat) (a0 : Sign) : Option Sign :=
  (Option.bind (X.s_mvAll fu a0.Main.Move) fun v1_3 => (Option.bind (X.s_cmRoot fu v1_3) fun v1_4 => (bif a0.Two then (Option.bind (X.s_mvAll fu a0.Other.Move) fun v3_3 => (Option.bind (X.s_cmRoot fu v3_3) fun v3_4 => some (⟨{ a0.Main with Move := (⟨v1_4, 1⟩ : Move) }, a0.Two, { a0.Other with Move := (⟨v3_4, 1⟩ : Move) }⟩ : Sign))) else some ({ a0 with Main := { a0.Main with Move := (⟨v1_4, 1⟩ : Move) } }))))
def X.s_PartsOfCompound (fu : Nat) (a0 : (List Sign)) (a1 : (List Sign)) : Option ((List Int) × Bool) :=
  (Option.bind (X.s_paList fu a0) fun v1_1 => (bif (!v1_1) then some (([] : List _), false) else (Option.bind (X.s_cmGood fu a1) fun v1_5 => (bif (!v1_5) then some (([] : List _), false) else (orEl (rangeM (fun (j10 : Int) (x11 : Sign) l3 => (Option.bind (rangeM (fun (j18 : Int) (x19 : Sign) n15 => (bif decide ((wr ((j10 : Int) + 1)) < (List.length a1 : Int)) then (Option.bind (X.s_cmReduce fu x19) fun v12_1 => (bif decide (n15 < 0) then (bif (qSign v12_1 x11) then some (.inl (j18 : Int)) else some (.inl n15)) else some (.inl n15))) else (bif decide (n15 < 0) then (bif (qSign x19 x11) then some (.inl (j18 : Int)) else some (.inl n15)) else some (.inl n15)))) (fun n15 => some n15) a0 0 (-1)) fun n16 => (bif decide (n16 < 0) then some (.inr (.inl (([] : List _), false))) else (Option.bind (appG (eI .i64) l3 ([n16] : List Int)) fun y18_3 => some (.inl y18_3))))) (fun l3 => some (.inr l3)) a1 0 ([] : List Int)) (fun r => some r) (fun l6 => some (l6, true)))))))
def X.i_Move_reduced (fu : Nat) (a0 : Move) : Option Move :=
  (Option.bind (X.i_Move_all a0) fun v1_1 => (orEl (loopM (fun n1 => (bif decide (n1 ≤ (List.length v1_1 : Int)) then (Option.bind (modI (List.length v1_1 : Int) n1) fun y5_3 => (bif (y5_3 == 0) then (Option.bind (cutS v1_1 0 n1) fun y5_8 => (Option.bind (divI (List.length v1_1 : Int) n1) fun y5_12 => (Option.bind (X.strings_Repeat y5_8 y5_12) fun v5_13 => (bif (seq v5_13 v1_1) then (Option.bind (cutS v1_1 0 n1) fun y6_2 => some (.inr (.inl (⟨y6_2, 1⟩ : Move)))) else some (.inl (wr (n1 + 1))))))) else some (.inl (wr (n1 + 1))))) else some (.inr (.inr ())))) fu 1) (fun r => some r) (fun _ => some a0)))
def X.i_Sign_reduced (fu : Nat) (a0 : Sign) : Option Sign :=
  (Option.bind (X.i_Move_reduced fu a0.Main.Move) fun v1_3 => (bif a0.Two then (Option.bind (X.i_Move_reduced fu a0.Other.Move) fun v3_3 => some (⟨{ a0.Main with Move := v1_3 }, a0.Two, { a0.Other with Move := v3_3 }⟩ : Sign)) else some ({ a0 with Main := { a0.Main with Move := v1_3 } })))
def X.i_PartsOfCompound_1 (fu : Nat) (a1 : Int) (a2 : (List Sign)) (a3 : Sign) (a0 : Sign) : Option Bool :=
  (bif decide ((wr (a1 + 1)) < (List.length a2 : Int)) then (Option.bind (X.i_Sign_reduced fu a0) fun v2_1 => some (qSign v2_1 a3)) else some (qSign a0 a3))
def X.i_PartsOfCompound (fu : Nat) (a0 : (List Sign)) (a1 : (List Sign)) : Option ((List Int) × Bool) :=
  (Option.bind (X.i_areSigns fu a0 20) fun v1_1 => (bif (!v1_1) then some (([] : List _), false) else (Option.bind (X.i_isMade fu a1) fun v1_5 => (bif (!v1_5) then some (([] : List _), false) else (orEl (rangeM (fun (j10 : Int) (x11 : Sign) l3 => (Option.bind (X.slices_IndexFunc_i_Sign_i_Sign a0 (X.i_PartsOfCompound_1 fu (j10 : Int) a1 x11)) fun v7_2 => (bif decide (v7_2 < 0) then some (.inr (.inl (([] : List _), false))) else (Option.bind (appG (eI .i64) l3 ([v7_2] : List Int)) fun y10_3 => some (.inl y10_3))))) (fun l3 => some (.inr l3)) a1 0 ([] : List Int)) (fun r => some r) (fun l6 => some (l6, true)))))))
def X.i_SortSigns_1 (fu : Nat) (a0 : Sign) (a1 : Sign) : Option Int :=
  (Option.bind (X.i_Sign_normal fu a0) fun v1_1 => (Option.bind (X.i_Sign_normal fu a1) fun v1_3 => (Option.bind (X.i_compareSigns v1_1 v1_3) fun v1_4 => some v1_4)))
def X.s_plMirror (a0 : Place) : Option Place :=
  some ({ a0 with Side := (wr (0 - a0.Side)) })
def X.internal_bytealg_CompareString (a0 : Str) (a1 : Str) : Option Int :=
  none
def X.s_plAll (fu : Nat) : Option (List Place) :=
  (Option.bind (loopM (fun ⟨n1, l2⟩ => (bif decide (n1 < 10) then (Option.bind (loopM (fun ⟨n10, l11⟩ => (bif decide (n10 ≤ 1) then (Option.bind (rangeM (fun (j26 : Int) (x27 : Bool) l19 => (Option.bind (X.s_plGood (⟨n1, n10, x27⟩ : Place)) fun v12_1 => (bif v12_1 then (Option.bind (appG nPlace l19 ([(⟨n1, n10, x27⟩ : Place)] : List Place)) fun y13_3 => some (.inl y13_3)) else some (.inl l19)))) (fun l19 => some l19) ([false, true] : List Bool) 0 l11) fun l22 => some (.inl ((wr (n10 + 1)), l22))) else some (.inr l11))) fu ((-1), l2)) fun l14 => some (.inl ((wr (n1 + 1)), l14))) else some (.inr l2))) fu (0, ([] : List Place))) fun l5 => some l5)
def X.sync_atomic_b32 (a0 : Bool) : Option Int :=
  (bif a0 then some 1 else some 0)
def X.internal_stringslite_HasPrefix (a0 : Str) (a1 : Str) : Option Bool :=
  (bif decide ((List.length a0 : Int) ≥ (List.length a1 : Int)) then (Option.bind (cutS a0 0 (List.length a1 : Int)) fun y1_9 => some (seq y1_9 a1)) else some false)
def X.strings_HasPrefix (a0 : Str) (a1 : Str) : Option Bool :=
  (Option.bind (X.internal_stringslite_HasPrefix a0 a1) fun v1_2 => some v1_2)
def X.strings_longestCommonSuffix (fu : Nat) (a0 : Str) (a1 : Str) : Option Int :=
  (Option.bind (loopM (fun n1 => (bif decide (n1 < (List.length a0 : Int)) then (bif decide (n1 < (List.length a1 : Int)) then (Option.bind (getB a0 (wr ((wr ((List.length a0 : Int) - 1)) - n1))) fun y3_6 => (Option.bind (getB a1 (wr ((wr ((List.length a1 : Int) - 1)) - n1))) fun y3_13 => (bif (y3_6 != y3_13) then some (.inr n1) else some (.inl (wr (n1 + 1)))))) else some (.inr n1)) else some (.inr n1))) fu 0) fun n2 => some n2)
def X.math_bits_Mul32 (a0 : Int) (a1 : Int) : Option (Int × Int) :=
  some ((wk .u32 (Int.fdiv (wk .u64 ((wk .u64 a0) * (wk .u64 a1))) (2 ^ (min 32 (IntKind.bits .u64))))), (wk .u32 (wk .u64 ((wk .u64 a0) * (wk .u64 a1)))))
def X.math_bits_Mul64 (a0 : Int) (a1 : Int) : Option (Int × Int) :=
  some ((wk .u64 ((wk .u64 ((wk .u64 ((Int.fdiv a0 (2 ^ (min 32 (IntKind.bits .u64)))) * (Int.fdiv a1 (2 ^ (min 32 (IntKind.bits .u64)))))) + (Int.fdiv (wk .u64 ((wk .u64 ((Int.fdiv a0 (2 ^ (min 32 (IntKind.bits .u64)))) * (wk .u64 (Int.ofNat (BitVec.ofInt (IntKind.bits .u64) a1 &&& BitVec.ofInt (IntKind.bits .u64) 4294967295).toNat)))) + (Int.fdiv (wk .u64 ((wk .u64 (Int.ofNat (BitVec.ofInt (IntKind.bits .u64) a0 &&& BitVec.ofInt (IntKind.bits .u64) 4294967295).toNat)) * (wk .u64 (Int.ofNat (BitVec.ofInt (IntKind.bits .u64) a1 &&& BitVec.ofInt (IntKind.bits .u64) 4294967295).toNat)))) (2 ^ (min 32 (IntKind.bits .u64)))))) (2 ^ (min 32 (IntKind.bits .u64)))))) + (Int.fdiv (wk .u64 ((wk .u64 (Int.ofNat (BitVec.ofInt (IntKind.bits .u64) (wk .u64 ((wk .u64 ((Int.fdiv a0 (2 ^ (min 32 (IntKind.bits .u64)))) * (wk .u64 (Int.ofNat (BitVec.ofInt (IntKind.bits .u64) a1 &&& BitVec.ofInt (IntKind.bits .u64) 4294967295).toNat)))) + (Int.fdiv (wk .u64 ((wk .u64 (Int.ofNat (BitVec.ofInt (IntKind.bits .u64) a0 &&& BitVec.ofInt (IntKind.bits .u64) 4294967295).toNat)) * (wk .u64 (Int.ofNat (BitVec.ofInt (IntKind.bits .u64) a1 &&& BitVec.ofInt (IntKind.bits .u64) 4294967295).toNat)))) (2 ^ (min 32 (IntKind.bits .u64)))))) &&& BitVec.ofInt (IntKind.bits .u64) 4294967295).toNat)) + (wk .u64 ((wk .u64 (Int.ofNat (BitVec.ofInt (IntKind.bits .u64) a0 &&& BitVec.ofInt (IntKind.bits .u64) 4294967295).toNat)) * (Int.fdiv a1 (2 ^ (min 32 (IntKind.bits .u64)))))))) (2 ^ (min 32 (IntKind.bits .u64)))))), (wk .u64 (a0 * a1)))
def X.math_bits_Mul (a0 : Int) (a1 : Int) : Option (Int × Int) :=
  (Option.bind (X.math_bits_Mul64 a0 a1) fun v3_2 => some (v3_2.1, v3_2.2))
def X.internal_strconv_small (a0 : Int) : Option Str :=
  (bif decide (a0 < 10) then (Option.bind (cutS ([48, 49, 50, 51, 52, 53, 54, 55, 56, 57, 97, 98, 99, 100, 101, 102, 103, 104, 105, 106, 107, 108, 109, 110, 111, 112, 113, 114, 115, 116, 117, 118, 119, 120, 121, 122] : Str) a0 (wr (a0 + 1))) fun y2_3 => some y2_3) else (Option.bind (cutS ([48, 48, 48, 49, 48, 50, 48, 51, 48, 52, 48, 53, 48, 54, 48, 55, 48, 56, 48, 57, 49, 48, 49, 49, 49, 50, 49, 51, 49, 52, 49, 53, 49, 54, 49, 55, 49, 56, 49, 57, 50, 48, 50, 49, 50, 50, 50, 51, 50, 52, 50, 53, 50, 54, 50, 55, 50, 56, 50, 57, 51, 48, 51, 49, 51, 50, 51, 51, 51, 52, 51, 53, 51, 54, 51, 55, 51, 56, 51, 57, 52, 48, 52, 49, 52, 50, 52, 51, 52, 52, 52, 53, 52, 54, 52, 55, 52, 56, 52, 57, 53, 48, 53, 49, 53, 50, 53, 51, 53, 52, 53, 53, 53, 54, 53, 55, 53, 56, 53, 57, 54, 48, 54, 49, 54, 50, 54, 51, 54, 52, 54, 53, 54, 54, 54, 55, 54, 56, 54, 57, 55, 48, 55, 49, 55, 50, 55, 51, 55, 52, 55, 53, 55, 54, 55, 55, 55, 56, 55, 57, 56, 48, 56, 49, 56, 50, 56, 51, 56, 52, 56, 53, 56, 54, 56, 55, 56, 56, 56, 57, 57, 48, 57, 49, 57, 50, 57, 51, 57, 52, 57, 53, 57, 54, 57, 55, 57, 56, 57, 57] : Str) (wr (a0 * 2)) (wr ((wr (a0 * 2)) + 2))) fun y3_5 => some y3_5))
def X.internal_strconv_log10Pow2 (a0 : Int) : Option Int :=
  some (Int.fdiv (wr (a0 * 78913)) (2 ^ (min 18 (IntKind.bits .i64))))
def X.math_bits_Len64 (a0 : Int) : Option Int :=
  (bif decide (a0 ≥ 4294967296) then (bif decide ((Int.fdiv a0 (2 ^ (min 32 (IntKind.bits .u64)))) ≥ 65536) then (bif decide ((Int.fdiv (Int.fdiv a0 (2 ^ (min 32 (IntKind.bits .u64)))) (2 ^ (min 16 (IntKind.bits .u64)))) ≥ 256) then (Option.bind (getB ([0, 1, 2, 2, 3, 3, 3, 3, 4, 4, 4, 4, 4, 4, 4, 4, 5, 5, 5, 5, 5, 5, 5, 5, 5, 5, 5, 5, 5, 5, 5, 5, 6, 6, 6, 6, 6, 6, 6, 6, 6, 6, 6, 6, 6, 6, 6, 6, 6, 6, 6, 6, 6, 6, 6, 6, 6, 6, 6, 6, 6, 6, 6, 6, 7, 7, 7, 7, 7, 7, 7, 7, 7, 7, 7, 7, 7, 7, 7, 7, 7, 7, 7, 7, 7, 7, 7, 7, 7, 7, 7, 7, 7, 7, 7, 7, 7, 7, 7, 7, 7, 7, 7, 7, 7, 7, 7, 7, 7, 7, 7, 7, 7, 7, 7, 7, 7, 7, 7, 7, 7, 7, 7, 7, 7, 7, 7, 7, 8, 8, 8, 8, 8, 8, 8, 8, 8, 8, 8, 8, 8, 8, 8, 8, 8, 8, 8, 8, 8, 8, 8, 8, 8, 8, 8, 8, 8, 8, 8, 8, 8, 8, 8, 8, 8, 8, 8, 8, 8, 8, 8, 8, 8, 8, 8, 8, 8, 8, 8, 8, 8, 8, 8, 8, 8, 8, 8, 8, 8, 8, 8, 8, 8, 8, 8, 8, 8, 8, 8, 8, 8, 8, 8, 8, 8, 8, 8, 8, 8, 8, 8, 8, 8, 8, 8, 8, 8, 8, 8, 8, 8, 8, 8, 8, 8, 8, 8, 8, 8, 8, 8, 8, 8, 8, 8, 8, 8, 8, 8, 8, 8, 8, 8, 8, 8, 8, 8, 8, 8, 8, 8, 8, 8, 8, 8, 8] : Str) (wk .u8 (Int.fdiv (Int.fdiv (Int.fdiv a0 (2 ^ (min 32 (IntKind.bits .u64)))) (2 ^ (min 16 (IntKind.bits .u64)))) (2 ^ (min 8 (IntKind.bits .u64)))))) fun y10_3 => some (wr (56 + (wr y10_3)))) else (Option.bind (getB ([0, 1, 2, 2, 3, 3, 3, 3, 4, 4, 4, 4, 4, 4, 4, 4, 5, 5, 5, 5, 5, 5, 5, 5, 5, 5, 5, 5, 5, 5, 5, 5, 6, 6, 6, 6, 6, 6, 6, 6, 6, 6, 6, 6, 6, 6, 6, 6, 6, 6, 6, 6, 6, 6, 6, 6, 6, 6, 6, 6, 6, 6, 6, 6, 7, 7, 7, 7, 7, 7, 7, 7, 7, 7, 7, 7, 7, 7, 7, 7, 7, 7, 7, 7, 7, 7, 7, 7, 7, 7, 7, 7, 7, 7, 7, 7, 7, 7, 7, 7, 7, 7, 7, 7, 7, 7, 7, 7, 7, 7, 7, 7, 7, 7, 7, 7, 7, 7, 7, 7, 7, 7, 7, 7, 7, 7, 7, 7, 8, 8, 8, 8, 8, 8, 8, 8, 8, 8, 8, 8, 8, 8, 8, 8, 8, 8, 8, 8, 8, 8, 8, 8, 8, 8, 8, 8, 8, 8, 8, 8, 8, 8, 8, 8, 8, 8, 8, 8, 8, 8, 8, 8, 8, 8, 8, 8, 8, 8, 8, 8, 8, 8, 8, 8, 8, 8, 8, 8, 8, 8, 8, 8, 8, 8, 8, 8, 8, 8, 8, 8, 8, 8, 8, 8, 8, 8, 8, 8, 8, 8, 8, 8, 8, 8, 8, 8, 8, 8, 8, 8, 8, 8, 8, 8, 8, 8, 8, 8, 8, 8, 8, 8, 8, 8, 8, 8, 8, 8, 8, 8, 8, 8, 8, 8, 8, 8, 8, 8, 8, 8, 8, 8, 8, 8, 8, 8] : Str) (wk .u8 (Int.fdiv (Int.fdiv a0 (2 ^ (min 32 (IntKind.bits .u64)))) (2 ^ (min 16 (IntKind.bits .u64)))))) fun y10_3 => some (wr (48 + (wr y10_3))))) else (bif decide ((Int.fdiv a0 (2 ^ (min 32 (IntKind.bits .u64)))) ≥ 256) then (Option.bind (getB ([0, 1, 2, 2, 3, 3, 3, 3, 4, 4, 4, 4, 4, 4, 4, 4, 5, 5, 5, 5, 5, 5, 5, 5, 5, 5, 5, 5, 5, 5, 5, 5, 6, 6, 6, 6, 6, 6, 6, 6, 6, 6, 6, 6, 6, 6, 6, 6, 6, 6, 6, 6, 6, 6, 6, 6, 6, 6, 6, 6, 6, 6, 6, 6, 7, 7, 7, 7, 7, 7, 7, 7, 7, 7, 7, 7, 7, 7, 7, 7, 7, 7, 7, 7, 7, 7, 7, 7, 7, 7, 7, 7, 7, 7, 7, 7, 7, 7, 7, 7, 7, 7, 7, 7, 7, 7, 7, 7, 7, 7, 7, 7, 7, 7, 7, 7, 7, 7, 7, 7, 7, 7, 7, 7, 7, 7, 7, 7, 8, 8, 8, 8, 8, 8, 8, 8, 8, 8, 8, 8, 8, 8, 8, 8, 8, 8, 8, 8, 8, 8, 8, 8, 8, 8, 8, 8, 8, 8, 8, 8, 8, 8, 8, 8, 8, 8, 8, 8, 8, 8, 8, 8, 8, 8, 8, 8, 8, 8, 8, 8, 8, 8, 8, 8, 8, 8, 8, 8, 8, 8, 8, 8, 8, 8, 8, 8, 8, 8, 8, 8, 8, 8, 8, 8, 8, 8, 8, 8, 8, 8, 8, 8, 8, 8, 8, 8, 8, 8, 8, 8, 8, 8, 8, 8, 8, 8, 8, 8, 8, 8, 8, 8, 8, 8, 8, 8, 8, 8, 8, 8, 8, 8, 8, 8, 8, 8, 8, 8, 8, 8, 8, 8, 8, 8, 8, 8] : Str) (wk .u8 (Int.fdiv (Int.fdiv a0 (2 ^ (min 32 (IntKind.bits .u64)))) (2 ^ (min 8 (IntKind.bits .u64)))))) fun y10_3 => some (wr (40 + (wr y10_3)))) else (Option.bind (getB ([0, 1, 2, 2, 3, 3, 3, 3, 4, 4, 4, 4, 4, 4, 4, 4, 5, 5, 5, 5, 5, 5, 5, 5, 5, 5, 5, 5, 5, 5, 5, 5, 6, 6, 6, 6, 6, 6, 6, 6, 6, 6, 6, 6, 6, 6, 6, 6, 6, 6, 6, 6, 6, 6, 6, 6, 6, 6, 6, 6, 6, 6, 6, 6, 7, 7, 7, 7, 7, 7, 7, 7, 7, 7, 7, 7, 7, 7, 7, 7, 7, 7, 7, 7, 7, 7, 7, 7, 7, 7, 7, 7, 7, 7, 7, 7, 7, 7, 7, 7, 7, 7, 7, 7, 7, 7, 7, 7, 7, 7, 7, 7, 7, 7, 7, 7, 7, 7, 7, 7, 7, 7, 7, 7, 7, 7, 7, 7, 8, 8, 8, 8, 8, 8, 8, 8, 8, 8, 8, 8, 8, 8, 8, 8, 8, 8, 8, 8, 8, 8, 8, 8, 8, 8, 8, 8, 8, 8, 8, 8, 8, 8, 8, 8, 8, 8, 8, 8, 8, 8, 8, 8, 8, 8, 8, 8, 8, 8, 8, 8, 8, 8, 8, 8, 8, 8, 8, 8, 8, 8, 8, 8, 8, 8, 8, 8, 8, 8, 8, 8, 8, 8, 8, 8, 8, 8, 8, 8, 8, 8, 8, 8, 8, 8, 8, 8, 8, 8, 8, 8, 8, 8, 8, 8, 8, 8, 8, 8, 8, 8, 8, 8, 8, 8, 8, 8, 8, 8, 8, 8, 8, 8, 8, 8, 8, 8, 8, 8, 8, 8, 8, 8, 8, 8, 8, 8] : Str) (wk .u8 (Int.fdiv a0 (2 ^ (min 32 (IntKind.bits .u64)))))) fun y10_3 => some (wr (32 + (wr y10_3)))))) else (bif decide (a0 ≥ 65536) then (bif decide ((Int.fdiv a0 (2 ^ (min 16 (IntKind.bits .u64)))) ≥ 256) then (Option.bind (getB ([0, 1, 2, 2, 3, 3, 3, 3, 4, 4, 4, 4, 4, 4, 4, 4, 5, 5, 5, 5, 5, 5, 5, 5, 5, 5, 5, 5, 5, 5, 5, 5, 6, 6, 6, 6, 6, 6, 6, 6, 6, 6, 6, 6, 6, 6, 6, 6, 6, 6, 6, 6, 6, 6, 6, 6, 6, 6, 6, 6, 6, 6, 6, 6, 7, 7, 7, 7, 7, 7, 7, 7, 7, 7, 7, 7, 7, 7, 7, 7, 7, 7, 7, 7, 7, 7, 7, 7, 7, 7, 7, 7, 7, 7, 7, 7, 7, 7, 7, 7, 7, 7, 7, 7, 7, 7, 7, 7, 7, 7, 7, 7, 7, 7, 7, 7, 7, 7, 7, 7, 7, 7, 7, 7, 7, 7, 7, 7, 8, 8, 8, 8, 8, 8, 8, 8, 8, 8, 8, 8, 8, 8, 8, 8, 8, 8, 8, 8, 8, 8, 8, 8, 8, 8, 8, 8, 8, 8, 8, 8, 8, 8, 8, 8, 8, 8, 8, 8, 8, 8, 8, 8, 8, 8, 8, 8, 8, 8, 8, 8, 8, 8, 8, 8, 8, 8, 8, 8, 8, 8, 8, 8, 8, 8, 8, 8, 8, 8, 8, 8, 8, 8, 8, 8, 8, 8, 8, 8, 8, 8, 8, 8, 8, 8, 8, 8, 8, 8, 8, 8, 8, 8, 8, 8, 8, 8, 8, 8, 8, 8, 8, 8, 8, 8, 8, 8, 8, 8, 8, 8, 8, 8, 8, 8, 8, 8, 8, 8, 8, 8, 8, 8, 8, 8, 8, 8] : Str) (wk .u8 (Int.fdiv (Int.fdiv a0 (2 ^ (min 16 (IntKind.bits .u64)))) (2 ^ (min 8 (IntKind.bits .u64)))))) fun y10_3 => some (wr (24 + (wr y10_3)))) else (Option.bind (getB ([0, 1, 2, 2, 3, 3, 3, 3, 4, 4, 4, 4, 4, 4, 4, 4, 5, 5, 5, 5, 5, 5, 5, 5, 5, 5, 5, 5, 5, 5, 5, 5, 6, 6, 6, 6, 6, 6, 6, 6, 6, 6, 6, 6, 6, 6, 6, 6, 6, 6, 6, 6, 6, 6, 6, 6, 6, 6, 6, 6, 6, 6, 6, 6, 7, 7, 7, 7, 7, 7, 7, 7, 7, 7, 7, 7, 7, 7, 7, 7, 7, 7, 7, 7, 7, 7, 7, 7, 7, 7, 7, 7, 7, 7, 7, 7, 7, 7, 7, 7, 7, 7, 7, 7, 7, 7, 7, 7, 7, 7, 7, 7, 7, 7, 7, 7, 7, 7, 7, 7, 7, 7, 7, 7, 7, 7, 7, 7, 8, 8, 8, 8, 8, 8, 8, 8, 8, 8, 8, 8, 8, 8, 8, 8, 8, 8, 8, 8, 8, 8, 8, 8, 8, 8, 8, 8, 8, 8, 8, 8, 8, 8, 8, 8, 8, 8, 8, 8, 8, 8, 8, 8, 8, 8, 8, 8, 8, 8, 8, 8, 8, 8, 8, 8, 8, 8, 8, 8, 8, 8, 8, 8, 8, 8, 8, 8, 8, 8, 8, 8, 8, 8, 8, 8, 8, 8, 8, 8, 8, 8, 8, 8, 8, 8, 8, 8, 8, 8, 8, 8, 8, 8, 8, 8, 8, 8, 8, 8, 8, 8, 8, 8, 8, 8, 8, 8, 8, 8, 8, 8, 8, 8, 8, 8, 8, 8, 8, 8, 8, 8, 8, 8, 8, 8, 8, 8] : Str) (wk .u8 (Int.fdiv a0 (2 ^ (min 16 (IntKind.bits .u64)))))) fun y10_3 => some (wr (16 + (wr y10_3))))) else (bif decide (a0 ≥ 256) then (Option.bind (getB ([0, 1, 2, 2, 3, 3, 3, 3, 4, 4, 4, 4, 4, 4, 4, 4, 5, 5, 5, 5, 5, 5, 5, 5, 5, 5, 5, 5, 5, 5, 5, 5, 6, 6, 6, 6, 6, 6, 6, 6, 6, 6, 6, 6, 6, 6, 6, 6, 6, 6, 6, 6, 6, 6, 6, 6, 6, 6, 6, 6, 6, 6, 6, 6, 7, 7, 7, 7, 7, 7, 7, 7, 7, 7, 7, 7, 7, 7, 7, 7, 7, 7, 7, 7, 7, 7, 7, 7, 7, 7, 7, 7, 7, 7, 7, 7, 7, 7, 7, 7, 7, 7, 7, 7, 7, 7, 7, 7, 7, 7, 7, 7, 7, 7, 7, 7, 7, 7, 7, 7, 7, 7, 7, 7, 7, 7, 7, 7, 8, 8, 8, 8, 8, 8, 8, 8, 8, 8, 8, 8, 8, 8, 8, 8, 8, 8, 8, 8, 8, 8, 8, 8, 8, 8, 8, 8, 8, 8, 8, 8, 8, 8, 8, 8, 8, 8, 8, 8, 8, 8, 8, 8, 8, 8, 8, 8, 8, 8, 8, 8, 8, 8, 8, 8, 8, 8, 8, 8, 8, 8, 8, 8, 8, 8, 8, 8, 8, 8, 8, 8, 8, 8, 8, 8, 8, 8, 8, 8, 8, 8, 8, 8, 8, 8, 8, 8, 8, 8, 8, 8, 8, 8, 8, 8, 8, 8, 8, 8, 8, 8, 8, 8, 8, 8, 8, 8, 8, 8, 8, 8, 8, 8, 8, 8, 8, 8, 8, 8, 8, 8, 8, 8, 8, 8, 8, 8] : Str) (wk .u8 (Int.fdiv a0 (2 ^ (min 8 (IntKind.bits .u64)))))) fun y10_3 => some (wr (8 + (wr y10_3)))) else (Option.bind (getB ([0, 1, 2, 2, 3, 3, 3, 3, 4, 4, 4, 4, 4, 4, 4, 4, 5, 5, 5, 5, 5, 5, 5, 5, 5, 5, 5, 5, 5, 5, 5, 5, 6, 6, 6, 6, 6, 6, 6, 6, 6, 6, 6, 6, 6, 6, 6, 6, 6, 6, 6, 6, 6, 6, 6, 6, 6, 6, 6, 6, 6, 6, 6, 6, 7, 7, 7, 7, 7, 7, 7, 7, 7, 7, 7, 7, 7, 7, 7, 7, 7, 7, 7, 7, 7, 7, 7, 7, 7, 7, 7, 7, 7, 7, 7, 7, 7, 7, 7, 7, 7, 7, 7, 7, 7, 7, 7, 7, 7, 7, 7, 7, 7, 7, 7, 7, 7, 7, 7, 7, 7, 7, 7, 7, 7, 7, 7, 7, 8, 8, 8, 8, 8, 8, 8, 8, 8, 8, 8, 8, 8, 8, 8, 8, 8, 8, 8, 8, 8, 8, 8, 8, 8, 8, 8, 8, 8, 8, 8, 8, 8, 8, 8, 8, 8, 8, 8, 8, 8, 8, 8, 8, 8, 8, 8, 8, 8, 8, 8, 8, 8, 8, 8, 8, 8, 8, 8, 8, 8, 8, 8, 8, 8, 8, 8, 8, 8, 8, 8, 8, 8, 8, 8, 8, 8, 8, 8, 8, 8, 8, 8, 8, 8, 8, 8, 8, 8, 8, 8, 8, 8, 8, 8, 8, 8, 8, 8, 8, 8, 8, 8, 8, 8, 8, 8, 8, 8, 8, 8, 8, 8, 8, 8, 8, 8, 8, 8, 8, 8, 8, 8, 8, 8, 8, 8, 8] : Str) (wk .u8 a0)) fun y10_3 => some (wr (0 + (wr y10_3)))))))
def X.internal_strconv_bool2_int (a0 : Bool) : Option Int :=
  (bif a0 then some 1 else some 0)
def X.internal_strconv_isPowerOfTwo (a0 : Int) : Option Bool :=
  some ((wr (Int.ofNat (BitVec.ofInt (IntKind.bits .i64) a0 &&& BitVec.ofInt (IntKind.bits .i64) (wr (a0 - 1))).toNat)) == 0)
def X.math_bits_TrailingZeros (a0 : Int) : Option Int :=
  none
def X.internal_strconv_Itoa (fu : Nat) (a0 : Int) : Option Str :=
  none
def X.s_shMade (fu : Nat) (a0 : Int) (a1 : (List Int)) (a2 : Bool) : Option Shape :=
  (Option.bind (getI a1 0) fun y1_2 => (Option.bind (getI a1 1) fun y1_5 => (Option.bind (getI a1 2) fun y1_8 => (Option.bind (getI a1 3) fun y1_11 => (bif a2 then (Option.bind (X.s_shWide fu (⟨a0, y1_2, y1_5, y1_8, y1_11, zShape.Spread⟩ : Shape)) fun v2_3 => some (⟨a0, y1_2, y1_5, y1_8, y1_11, v2_3⟩ : Shape)) else some (⟨a0, y1_2, y1_5, y1_8, y1_11, false⟩ : Shape))))))
def X.s_AllOrients (fu : Nat) : Option (List Orient) :=
  (Option.bind (loopM (fun ⟨n1, l2⟩ => (bif decide (n1 ≤ 5) then (Option.bind (loopM (fun ⟨n10, l11⟩ => (bif decide (n10 ≤ 5) then (Option.bind (X.s_orGood (⟨n1, n10⟩ : Orient)) fun v9_1 => (bif v9_1 then (Option.bind (appG nOrient l11 ([(⟨n1, n10⟩ : Orient)] : List Orient)) fun y10_3 => some (.inl ((wr (n10 + 1)), y10_3))) else some (.inl ((wr (n10 + 1)), l11)))) else some (.inr l11))) fu (0, l2)) fun l14 => some (.inl ((wr (n1 + 1)), l14))) else some (.inr l2))) fu (0, ([] : List Orient))) fun l5 => some l5)
def X.internal_stringslite_IndexByte (a0 : Str) (a1 : Int) : Option Int :=
  none
def X.internal_bytealg_Cutover (a0 : Int) : Option Int :=
  some (wr (Int.tdiv (wr (a0 + 16)) 8))
def X.internal_bytealg_hashStr_string (fu : Nat) (a0 : Str) : Option (Int × Int) :=
  (Option.bind (loopM (fun ⟨n1, n2⟩ => (bif decide (n2 < (List.length a0 : Int)) then (Option.bind (getB a0 n2) fun y5_4 => some (.inl ((wk .u32 ((wk .u32 (n1 * 16777619)) + (wk .u32 y5_4))), (wr (n2 + 1))))) else some (.inr n1))) fu (0, 0)) fun n3 => (Option.bind (loopM (fun ⟨n6, n7, n8⟩ => (bif decide (n8 > 0) then (bif ((wr (Int.ofNat (BitVec.ofInt (IntKind.bits .i64) n8 &&& BitVec.ofInt (IntKind.bits .i64) 1).toNat)) != 0) then some (.inl ((wk .u32 (n6 * n7)), (wk .u32 (n7 * n7)), (Int.fdiv n8 (2 ^ (min 1 (IntKind.bits .i64)))))) else some (.inl (n6, (wk .u32 (n7 * n7)), (Int.fdiv n8 (2 ^ (min 1 (IntKind.bits .i64))))))) else some (.inr n6))) fu (1, 16777619, (List.length a0 : Int))) fun n9 => some (n3, n9)))
def X.internal_bytealg_IndexRabinKarp_string (fu : Nat) (a0 : Str) (a1 : Str) : Option Int :=
  (Option.bind (X.internal_bytealg_hashStr_string fu a1) fun v1_1 => (Option.bind (loopM (fun ⟨n1, n2⟩ => (bif decide (n2 < (List.length a1 : Int)) then (Option.bind (getB a0 n2) fun y7_4 => some (.inl ((wk .u32 ((wk .u32 (n1 * 16777619)) + (wk .u32 y7_4))), (wr (n2 + 1))))) else some (.inr n1))) fu (0, 0)) fun n3 => (bif (n3 == v1_1.1) then (Option.bind (cutS a0 0 (List.length a1 : Int)) fun y8_6 => (bif (seq y8_6 a1) then some 0 else (orEl (loopM (fun ⟨n8, n9⟩ => (bif decide (n9 < (List.length a0 : Int)) then (Option.bind (getB a0 n9) fun y13_3 => (Option.bind (getB a0 (wr (n9 - (List.length a1 : Int)))) fun y14_6 => (bif ((wk .u32 ((wk .u32 ((wk .u32 (n8 * 16777619)) + (wk .u32 y13_3))) - (wk .u32 (v1_1.2 * (wk .u32 y14_6))))) == v1_1.1) then (Option.bind (cutS a0 (wr ((wr (n9 + 1)) - (List.length a1 : Int))) (wr (n9 + 1))) fun y16_9 => (bif (seq y16_9 a1) then some (.inr (.inl (wr ((wr (n9 + 1)) - (List.length a1 : Int))))) else some (.inl ((wk .u32 ((wk .u32 ((wk .u32 (n8 * 16777619)) + (wk .u32 y13_3))) - (wk .u32 (v1_1.2 * (wk .u32 y14_6))))), (wr (n9 + 1)))))) else some (.inl ((wk .u32 ((wk .u32 ((wk .u32 (n8 * 16777619)) + (wk .u32 y13_3))) - (wk .u32 (v1_1.2 * (wk .u32 y14_6))))), (wr (n9 + 1))))))) else some (.inr (.inr ())))) fu (n3, (List.length a1 : Int))) (fun r => some r) (fun _ => some (-1))))) else (orEl (loopM (fun ⟨n14, n15⟩ => (bif decide (n15 < (List.length a0 : Int)) then (Option.bind (getB a0 n15) fun y13_3 => (Option.bind (getB a0 (wr (n15 - (List.length a1 : Int)))) fun y14_6 => (bif ((wk .u32 ((wk .u32 ((wk .u32 (n14 * 16777619)) + (wk .u32 y13_3))) - (wk .u32 (v1_1.2 * (wk .u32 y14_6))))) == v1_1.1) then (Option.bind (cutS a0 (wr ((wr (n15 + 1)) - (List.length a1 : Int))) (wr (n15 + 1))) fun y16_9 => (bif (seq y16_9 a1) then some (.inr (.inl (wr ((wr (n15 + 1)) - (List.length a1 : Int))))) else some (.inl ((wk .u32 ((wk .u32 ((wk .u32 (n14 * 16777619)) + (wk .u32 y13_3))) - (wk .u32 (v1_1.2 * (wk .u32 y14_6))))), (wr (n15 + 1)))))) else some (.inl ((wk .u32 ((wk .u32 ((wk .u32 (n14 * 16777619)) + (wk .u32 y13_3))) - (wk .u32 (v1_1.2 * (wk .u32 y14_6))))), (wr (n15 + 1))))))) else some (.inr (.inr ())))) fu (n3, (List.length a1 : Int))) (fun r => some r) (fun _ => some (-1))))))
def X.strings_Index (fu : Nat) (a0 : Str) (a1 : Str) : Option Int :=
  none
def X.strings_Count (fu : Nat) (a0 : Str) (a1 : Str) : Option Int :=
  (bif ((List.length a1 : Int) == 0) then none else (bif ((List.length a1 : Int) == 1) then (Option.bind (getB a1 0) fun y4_2 => none) else (loopM (fun ⟨t3, n4⟩ => (Option.bind (X.strings_Index fu t3 a1) fun v6_2 => (bif (v6_2 == (-1)) then some (.inr n4) else (Option.bind (cutS t3 (wr (v6_2 + (List.length a1 : Int))) (List.length t3 : Int)) fun y10_5 => some (.inl (y10_5, (wr (n4 + 1)))))))) fu (a0, 0))))
end Go.Proofs.XC
