/- What further functions of the given program reckon, in plain Lean. By AI agents; no person has read it. -/
import Derived.Test.YtjnablhfhdedfaaGreatDoorX
import Derived.Lib.SlicesCompact
set_option linter.unusedVariables false
set_option linter.unusedSimpArgs false
set_option maxRecDepth 100000
set_option maxHeartbeats 40000000
namespace Go.Proofs.XC
open Go Go.RowKit
def X.slices_Clone_string_string (a0 : (List Str)) : Option (List Str) :=
  appG eS ([] : List Str) a0
def X.slices_Sort_string_string (a0 : (List Str)) : Option (List Str) :=
  bif decide (List.length a0 < 4611686018427387904) then some (a0.mergeSort fun x y => decide (x ≤ y)) else none
def X.slices_Compact_string_string (a0 : (List Str)) : Option (List Str) :=
  bif decide (List.length a0 ≤ 9223372036854775807) then some (Lib.compact a0) else none
def X.i_distinct_string (a0 : (List Str)) : Option (List Str) :=
  (Option.bind (X.slices_Clone_string_string a0) fun v1_1 => (Option.bind (X.slices_Sort_string_string v1_1) fun v2_1 => (Option.bind (X.slices_Compact_string_string v2_1) fun v3_1 => some v3_1)))
def X.i_HomonymsOf (fu : Nat) (a0 : (List Entry)) (a1 : Sign) : Option ((List Str) × Bool) :=
  (Option.bind (X.i_AreEntries fu a0) fun v1_1 => (bif (!v1_1) then some (([] : List _), false) else (Option.bind (X.i_IsSign fu a1) fun v1_5 => (bif (!v1_5) then some (([] : List _), false) else (Option.bind (X.i_those_i_Entry a0 (X.i_HomonymsOf_1 a1)) fun v4_2 => (Option.bind (rangeM (fun (j10 : Int) (x11 : Int) l3 => (Option.bind (getI a0 x11) fun y7_3 => (Option.bind (appG eS l3 ([y7_3.Gloss] : List Str)) fun y7_7 => some (.inl y7_7)))) (fun l3 => some l3) v4_2 0 ([] : List Str)) fun l6 => (Option.bind (X.i_distinct_string l6) fun v9_1 => some (v9_1, true))))))))
def X.l_FnExactHomonymsOf (fu : Nat) (a0 : (List Entry)) (a1 : Sign) : Option Bool :=
  (Option.bind (X.l_szEntryS fu a0 1048576) fun v2_2 => (bif decide (v2_2 < 0) then some true else (Option.bind (X.l_szSign a1 v2_2) fun v5_2 => (bif decide (v5_2 < 0) then some true else (Option.bind (X.l_toEntryS fu a0) fun v8_1 => (Option.bind (X.l_toSign a1) fun v8_3 => (Option.bind (X.s_HomonymsOf fu v8_1 v8_3) fun v8_4 => (Option.bind (X.l_toEntryS fu a0) fun v9_1 => (Option.bind (X.l_toSign a1) fun v10_2 => (Option.bind (X.i_HomonymsOf fu v9_1 v10_2) fun v10_3 => (Option.bind (X.l_eqStringS fu v10_3.1 v8_4.1) fun v11_2 => (bif (!v11_2) then some false else (bif (!(v10_3.2 == v8_4.2)) then some false else (Option.bind (X.l_toEntryS fu a0) fun v13_2 => (Option.bind (X.l_eqEntryS fu v9_1 v13_2) fun v13_3 => (bif (!v13_3) then some false else (Option.bind (X.l_markEntryS fu v9_1 1) fun v16_2 => (bif decide (v16_2.1 < 0) then some false else (Option.bind (X.l_eqStringS fu v10_3.1 v8_4.1) fun v17_5 => (bif (!v17_5) then some false else (Option.bind (X.l_markStringS fu v10_3.1 1) fun v20_2 => (Option.bind (X.l_heldStringS fu v20_2.2 1) fun v22_2 => (bif decide (v22_2 < 0) then some false else (bif (v22_2 != v20_2.1) then some false else (Option.bind (X.l_toEntryS fu a0) fun v27_1 => (Option.bind (X.l_toSign a1) fun v27_3 => (Option.bind (X.i_HomonymsOf fu v27_1 v27_3) fun v27_4 => (Option.bind (X.l_eqStringS fu v27_4.1 v8_4.1) fun v28_2 => (bif (!v28_2) then some false else (bif (!(v27_4.2 == v8_4.2)) then some false else (Option.bind (X.l_heldStringS fu v20_2.2 1) fun v31_2 => (bif decide (v31_2 < 0) then some false else (bif (v31_2 != v20_2.1) then some false else some true)))))))))))))))))))))))))))))))))
end Go.Proofs.XC
