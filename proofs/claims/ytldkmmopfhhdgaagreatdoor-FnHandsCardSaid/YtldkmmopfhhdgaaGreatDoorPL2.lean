/- Plain laws of the plain functions: no program, no memory. By AI agents; no person has read it. -/
import Derived.Test.YtldkmmopfhhdgaaGreatDoorPL1
import Derived.Test.YtldkmmopfhhdgaaGreatDoorPR2
set_option linter.unusedVariables false
set_option linter.unusedSimpArgs false
set_option maxRecDepth 100000
set_option maxHeartbeats 40000000
namespace Go.Proofs.XC
open Go Go.RowKit
/-! ### Comparisons of hands are those of texts -/
theorem tHand_inj {a b : Hand} (ga : gHand a = true) (gb : gHand b = true) (h : tHand a = tHand b) : a = b := by
  obtain ⟨a1, a2, a3, a4⟩ := gHand_iff.1 ga
  obtain ⟨b1, b2, b3, b4⟩ := gHand_iff.1 gb
  have e1 : Lib.split (tHand a) [47] = [tShape a.Shape, tOrient a.Orient, tPlace a.Place, tMove a.Move] := by
    unfold tHand
    rw [split_four 47 _ _ _ _ (no47_shape a1) (no47_orient a2) (no47_place a3) (no47_move a4)]
  have e2 : Lib.split (tHand b) [47] = [tShape b.Shape, tOrient b.Orient, tPlace b.Place, tMove b.Move] := by
    unfold tHand
    rw [split_four 47 _ _ _ _ (no47_shape b1) (no47_orient b2) (no47_place b3) (no47_move b4)]
  rw [h, e2] at e1
  simp only [List.cons.injEq, and_true] at e1
  obtain ⟨h1, h2, h3, h4⟩ := e1
  cases a
  cases b
  congr
  · exact (tShape_inj b1 a1 h1).symm
  · exact (tOrient_inj b2 a2 h2).symm
  · exact (tPlace_inj b3 a3 h3).symm
  · exact (tMove_inj b4 a4 h4).symm
theorem cmpB_rng (a b : Str) : (cmpB a b = -1 ∧ Op.bytesLess a b = true) ∨ (cmpB a b = 0 ∧ Op.bytesLess a b = false ∧ a = b) ∨ (cmpB a b = 1 ∧ Op.bytesLess a b = false ∧ a ≠ b) := by
  rw [← cmpB_eq]
  by_cases h : Op.bytesLess a b = true
  · exact .inl ⟨by rw [if_pos h], h⟩
  · have h' : Op.bytesLess a b = false := by simpa using h
    by_cases h2 : a = b
    · exact .inr (.inl ⟨by rw [if_neg h, if_pos h2], h', h2⟩)
    · exact .inr (.inr ⟨by rw [if_neg h, if_neg h2], h', h2⟩)
def vCmp (a b : Hand) : Int × Bool := if (gHand a && gHand b) = true then (cmpB (tHand a) (tHand b), true) else (0, false)
theorem i_Cmp_eq {a b : Hand} (ha : small a) (hb : small b) : X.i_CompareHands a b = some (vCmp a b) := by
  unfold X.i_CompareHands vCmp
  rw [i_IsHand_eq a ha, i_IsHand_eq b hb, bind_some, bind_some]
  cases h1 : gHand a
  · rfl
  cases h2 : gHand b
  · rfl
  rw [i_Hand_text_eq h1, i_Hand_text_eq h2]
  rfl
theorem s_Cmp_eq {k : Nat} {a b : Hand} (ha : small a) (hb : small b) (hk : 2000010 ≤ k) : X.s_CompareHands k a b = some (vCmp a b) := by
  unfold X.s_CompareHands vCmp
  rw [s_siHand_eq k a ha hk, s_siHand_eq k b hb hk, bind_some, bind_some]
  cases h1 : gHand a
  · rfl
  cases h2 : gHand b
  · rfl
  have : X.s_siCompare k a b = some (cmpB (tHand a) (tHand b)) := by
    obtain ⟨q, rfl⟩ : ∃ q, k = q + 1 := ⟨k - 1, by omega⟩
    unfold X.s_siCompare
    rw [s_siText_eq q h1, bind_some, s_siText_eq q h2, bind_some, slt_eq, seq_eq]
    rcases cmpB_rng (tHand a) (tHand b) with ⟨e1, e2⟩ | ⟨e1, e2, e3⟩ | ⟨e1, e2, e3⟩
    · rw [e1, e2]; rfl
    · rw [e1, e2, decide_eq_true e3]; rfl
    · rw [e1, e2, decide_eq_false e3]; rfl
  simp only [Bool.not_true, cond_false, Bool.and_self, if_true]
  rw [this]
  rfl
def vTxt (h : Hand) : Str × Bool := if gHand h = true then (tHand h, true) else ([], false)
theorem i_Txt_eq {h : Hand} (hs : small h) : X.i_HandText h = some (vTxt h) := by
  unfold X.i_HandText vTxt
  rw [i_IsHand_eq h hs, bind_some]
  cases h1 : gHand h
  · rfl
  rw [i_Hand_text_eq h1]
  rfl
theorem s_Txt_eq {k : Nat} {h : Hand} (hs : small h) (hk : 2000010 ≤ k) : X.s_HandText k h = some (vTxt h) := by
  unfold X.s_HandText vTxt
  rw [s_siHand_eq k h hs hk, bind_some]
  cases h1 : gHand h
  · rfl
  obtain ⟨q, rfl⟩ : ∃ q, k = q + 1 := ⟨k - 1, by omega⟩
  rw [s_siText_eq q h1]
  rfl
theorem s_IsHand_eq {k : Nat} {h : Hand} (hs : small h) (hk : 2000010 ≤ k) : X.s_IsHand k h = some (gHand h) := by
  unfold X.s_IsHand
  rw [s_siHand_eq k h hs hk]
  rfl
theorem rest_loop {k : Nat} {h : Hand} (gh : gHand h = true) (sh : small h) (hk : 2000010 ≤ k) : ∀ (l : List Shape) (j : Nat), (∀ x ∈ l, x ∈ plainL) →
    rangeM (fun (j28 : Int) (x29 : Shape) (_ : Unit) => (Option.bind (X.i_BrokenRule k h ({ h with Shape := x29, Move := { zMove with Repeat := 1 } })) fun v28_2 => (bif (!v28_2.2) then some (.inr (.inl false)) else (bif (v28_2.1 != 0) then some (.inr (.inl false)) else some (.inl ()))))) (fun _ => some (.inr ())) l j () = some (.inr () : Bool ⊕ Unit)
  | [], _, _ => rfl
  | x :: l, j, hl => by
    have hx := hl x List.mem_cons_self
    have sr : small { h with Shape := x, Move := { zMove with Repeat := 1 } } := tiny_small tiny_still
    have hgx : gShape x = true := by
      unfold plainL at hx
      simp only [List.mem_cons, List.not_mem_nil, or_false] at hx
      rcases hx with rfl | rfl | rfl | rfl | rfl | rfl <;> rfl
    have gr : gHand { h with Shape := x, Move := { zMove with Repeat := 1 } } = true := by
      obtain ⟨_, g2, g3, _⟩ := gHand_iff.1 gh
      exact gHand_iff.2 ⟨hgx, g2, g3, (show gMove { zMove with Repeat := 1 } = true by decide)⟩
    have hb : vBR h { h with Shape := x, Move := { zMove with Repeat := 1 } } = (0, true) := by
      unfold vBR
      rw [gh, gr]
      have : vBroken h { h with Shape := x, Move := { zMove with Repeat := 1 } } = 0 := by
        unfold vBroken
        rw [if_pos (show zMove.Steps = [] from rfl), if_pos (Or.inr hx)]
      rw [this]
      rfl
    rw [rangeM_cons, i_BR_eq sh sr hk, hb]
    exact rest_loop gh sh hk l (j + 1) fun y hy => hl y (List.mem_cons_of_mem _ hy)
theorem Pure.FnHands (c : List Int) (o_c : okL okY c) (d : List Int) (o_d : okL okY d) : X.l_FnHands 3000000 c d = some true := by
  have hc := okB8_of o_c
  have hd := okB8_of o_d
  unfold X.l_FnHands
  obtain ⟨v, hv⟩ := big_eq c d
  rw [hv, bind_some]
  cases v with
  | true => rfl
  | false =>
  rw [cond_false]
  obtain ⟨a, b, e, ha, hb⟩ := compareHands_ex (k := 3000000) hc (by omega)
  rw [e, bind_some]
  dsimp only
  have sa := tiny_small ha
  have sb := tiny_small hb
  rw [i_Cmp_eq sa sb, bind_some, s_Cmp_eq sa sb (by omega), bind_some, i_Txt_eq sa, bind_some, s_Txt_eq sa (by omega), bind_some, i_Txt_eq sb, bind_some, s_Txt_eq sb (by omega), bind_some]
  refine bindB (v := false) ?_ ?_
  · simp only [seq_eq]
    unfold vCmp vTxt
    cases h1 : gHand a <;> cases h2 : gHand b <;> simp
  rw [cond_false]
  refine orElB (v := ()) ?_ ?_
  · rw [i_Cmp_eq sb sa]
    unfold vCmp vTxt
    cases h1 : gHand a
    · rfl
    cases h2 : gHand b
    · rfl
    simp only [Bool.and_self, if_true, cond_true, bind_some, Bool.not_true, cond_false]
    refine bindB (v := false) ?_ rfl
    rw [cmpB_anti (tHand a) (tHand b), slt_eq, qHand_iff]
    rcases cmpB_rng (tHand a) (tHand b) with ⟨e1, e2⟩ | ⟨e1, e2, e3⟩ | ⟨e1, e2, e3⟩
    · have : a ≠ b := fun h => by
        rw [h, bytesLess_irrefl] at e2
        cases e2
      rw [e1, e2, decide_eq_false this]
      rfl
    · have : a = b := tHand_inj h1 h2 e3
      rw [e1, e2, decide_eq_true this]
      rfl
    · have : a ≠ b := fun h => e3 (by rw [h])
      rw [e1, e2, decide_eq_false this]
      rfl
  rw [i_PlainShapes_eq 2999994, bind_some]
  unfold X.s_PlainShapes
  rw [s_siPlain_eq 2999994, bind_some, bind_some]
  refine bindB (v := false) rfl ?_
  rw [cond_false]
  obtain ⟨w, e, hw⟩ := oneHand_ex (k := 3000000) hd (by omega)
  have sw := tiny_small hw
  rw [e, bind_some, i_IsHand_eq w sw, bind_some, s_IsHand_eq sw (by omega), bind_some]
  refine (congrArg (fun o => o = some true) (show (bif (!(gHand w == gHand w)) then some false else _) = _ from by rw [beq_self_eq_true])).mpr ?_
  rw [bind_some]
  refine orElB (v := ()) ?_ ?_
  · cases h : gHand w
    · rfl
    · rw [cond_true]
      exact orElB (v := ()) (rest_loop h sw (by omega) plainL 0 fun x hx => hx) rfl
  obtain ⟨a, b, e, ha, hb⟩ := brokenRule_ex (k := 3000000) hd (by omega)
  rw [e, bind_some]
  dsimp only
  rw [i_BR_eq (tiny_small ha) (tiny_small hb) (by omega), bind_some, s_BR_eq (tiny_small ha) (tiny_small hb) (by omega), bind_some]
  simp
end Go.Proofs.XC
