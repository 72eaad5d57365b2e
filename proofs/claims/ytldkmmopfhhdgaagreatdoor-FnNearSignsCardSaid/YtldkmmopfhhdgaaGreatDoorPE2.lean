/- Plain laws of the plain functions: no program, no memory. By AI agents; no person has read it. -/
import Derived.Test.YtldkmmopfhhdgaaGreatDoorPE1
set_option linter.unusedVariables false
set_option linter.unusedSimpArgs false
set_option maxRecDepth 100000
set_option maxHeartbeats 40000000
namespace Go.Proofs.XC
open Go Go.RowKit
/-! ### Distances are the same both ways, and 0 for what is the same -/
theorem ab_comm (x y : Int) : ab x y = ab y x := by unfold ab; (repeat' split) <;> omega
theorem ab_zero {x y : Int} (h : ab x y = 0) : x = y := by unfold ab at h; (repeat' split at h) <;> omega
theorem ab_nn (x y : Int) : 0 ≤ ab x y := by unfold ab; (repeat' split) <;> omega
theorem ab_self (x : Int) : ab x x = 0 := by unfold ab; (repeat' split) <;> omega
theorem bi_zero {b : Bool} (h : bi b = 0) : b = false := by cases b <;> simp_all [bi]
theorem farS_comm (a b : Shape) : farS a b = farS b a := by
  unfold farS
  have e1 : decide (a.Thumb = b.Thumb) = decide (b.Thumb = a.Thumb) := by rw [decide_eq_decide]; exact eq_comm
  have e2 : (a.Spread == b.Spread) = (b.Spread == a.Spread) := by cases a.Spread <;> cases b.Spread <;> rfl
  rw [ab_comm a.Index, ab_comm a.Middle, ab_comm a.Ring, ab_comm a.Little, e1, e2]
theorem farS_zero {a b : Shape} : farS a b = 0 ↔ a = b := by
  constructor
  · intro h
    unfold farS at h
    have h1 := ab_nn a.Index b.Index
    have h2 := ab_nn a.Middle b.Middle
    have h3 := ab_nn a.Ring b.Ring
    have h4 := ab_nn a.Little b.Little
    have h5 := (bi_bd (!(decide (a.Thumb = b.Thumb)))).1
    have h6 := (bi_bd (!(a.Spread == b.Spread))).1
    have e1 := ab_zero (x := a.Index) (y := b.Index) (by omega)
    have e2 := ab_zero (x := a.Middle) (y := b.Middle) (by omega)
    have e3 := ab_zero (x := a.Ring) (y := b.Ring) (by omega)
    have e4 := ab_zero (x := a.Little) (y := b.Little) (by omega)
    have e5 : a.Thumb = b.Thumb := by
      have := bi_zero (b := !(decide (a.Thumb = b.Thumb))) (by omega)
      simpa using this
    have e6 : a.Spread = b.Spread := by
      have := bi_zero (b := !(a.Spread == b.Spread)) (by omega)
      simpa using this
    cases a
    cases b
    simp_all
  · rintro rfl
    unfold farS
    simp [ab_self, bi]
theorem farP_comm (a b : Place) : farP a b = farP b a := by
  unfold farP
  have e2 : (a.Contact == b.Contact) = (b.Contact == a.Contact) := by cases a.Contact <;> cases b.Contact <;> rfl
  have e3 : ((a.Region == 0) == (b.Region == 0)) = ((b.Region == 0) == (a.Region == 0)) := by cases (a.Region == 0) <;> cases (b.Region == 0) <;> rfl
  rw [ab_comm a.Side, ab_comm a.Region, e2, e3]
theorem farP_zero {a b : Place} : farP a b = 0 ↔ a = b := by
  constructor
  · intro h
    unfold farP at h
    have h1 := ab_nn a.Side b.Side
    have h2 := ab_nn a.Region b.Region
    have h6 := (bi_bd (!(a.Contact == b.Contact))).1
    split at h
    · have e1 := ab_zero (x := a.Side) (y := b.Side) (by omega)
      have e2 := ab_zero (x := a.Region) (y := b.Region) (by omega)
      have e6 : a.Contact = b.Contact := by
        have := bi_zero (b := !(a.Contact == b.Contact)) (by omega)
        simpa using this
      cases a
      cases b
      simp_all
    · omega
  · rintro rfl
    unfold farP
    simp [ab_self, bi]
theorem farH_comm {a b : Hand} (ga : gHand a = true) (gb : gHand b = true) : farH a b = farH b a := by
  have la := all_len (gHand_iff.1 ga).2.2.2
  have lb := all_len (gHand_iff.1 gb).2.2.2
  unfold farH
  have e1 : decide (a.Orient.Palm = b.Orient.Palm) = decide (b.Orient.Palm = a.Orient.Palm) := by rw [decide_eq_decide]; exact eq_comm
  have e2 : decide (a.Orient.Fingers = b.Orient.Fingers) = decide (b.Orient.Fingers = a.Orient.Fingers) := by rw [decide_eq_decide]; exact eq_comm
  rw [farS_comm, farP_comm, lev_comm (a := allSteps a.Move) (by omega) (by omega), e1, e2]
theorem farH_self {a : Hand} (ga : gHand a = true) : farH a a = 0 := by
  have la := all_len (gHand_iff.1 ga).2.2.2
  unfold farH
  rw [farS_zero.2 rfl, farP_zero.2 rfl, (lev_zero (by omega)).2 rfl]
  simp [bi]
def isN (h : Hand) : Prop := ∃ x, gHand x = true ∧ h = nH x
theorem isN_good {h : Hand} (hn : isN h) : gHand h = true := by
  obtain ⟨x, gx, rfl⟩ := hn
  exact gHand_nH gx
theorem farH_zero {a b : Hand} (na : isN a) (nb : isN b) (h : farH a b = 0) : a = b := by
  have ga := isN_good na
  have gb := isN_good nb
  have hk := farH_eqs (k := 100) ga gb (by omega)
  obtain ⟨a1, _, a3, a4⟩ := gHand_iff.1 ga
  obtain ⟨b1, _, b3, b4⟩ := gHand_iff.1 gb
  have lb := all_len b4
  have s3 := (farS_eqs a1 b1).2.2.1
  have p3 := (farP_eqs a3 b3).2.2.1
  have l3 := (lev_ge (a := allSteps a.Move) (b := allSteps b.Move) (by omega)).2.2
  have t1 := (bi_bd (!(decide (a.Orient.Palm = b.Orient.Palm)))).1
  have t2 := (bi_bd (!(decide (a.Orient.Fingers = b.Orient.Fingers)))).1
  unfold farH at h
  have e1 := farS_zero.1 (show farS a.Shape b.Shape = 0 by omega)
  have e2 := farP_zero.1 (show farP a.Place b.Place = 0 by omega)
  have e3 := (lev_zero (by omega)).1 (show lev (allSteps a.Move) (allSteps b.Move) = 0 by omega)
  have e4 : a.Orient.Palm = b.Orient.Palm := by
    have := bi_zero (b := !(decide (a.Orient.Palm = b.Orient.Palm))) (by omega)
    simpa using this
  have e5 : a.Orient.Fingers = b.Orient.Fingers := by
    have := bi_zero (b := !(decide (a.Orient.Fingers = b.Orient.Fingers))) (by omega)
    simpa using this
  have em : a.Move = b.Move := by
    obtain ⟨x, gx, rfl⟩ := na
    obtain ⟨y, gy, rfl⟩ := nb
    have mx := (nMv_good (gHand_iff.1 gx).2.2.2).2.1
    have my := (nMv_good (gHand_iff.1 gy).2.2.2).2.1
    show nM x.Move = nM y.Move
    have e3 : allSteps (nM x.Move) = allSteps (nM y.Move) := e3
    rw [mx, my] at e3
    unfold nM
    rw [e3]
  have eo : a.Orient = b.Orient := by
    cases ha : a.Orient
    cases hb : b.Orient
    rw [ha, hb] at e4 e5
    simp only at e4 e5
    rw [e4, e5]
  cases a
  cases b
  simp_all
theorem nS_isN {s : Sign} (g : gSign s = true) : isN (nS s).Main ∧ ((nS s).Two = true → isN (nS s).Other) ∧ ((nS s).Two = false → (nS s).Other = zHand) := by
  have gm := gSign_main g
  unfold nS
  cases h : s.Two
  · simp only [if_true]
    exact ⟨⟨_, gm, rfl⟩, by simp, by simp⟩
  · have go := (gSign_other g h).1
    rw [if_neg (by simp)]
    split
    · exact ⟨⟨_, go, rfl⟩, fun _ => ⟨_, gm, rfl⟩, fun h => by cases h⟩
    · exact ⟨⟨_, gm, rfl⟩, fun _ => ⟨_, go, rfl⟩, fun h => by cases h⟩
theorem farG_comm {a b : Sign} (ga : gSign a = true) (gb : gSign b = true) : farG a b = farG b a := by
  obtain ⟨a1, a2, a3⟩ := nS_isN ga
  obtain ⟨b1, b2, b3⟩ := nS_isN gb
  unfold farG farN
  rw [farH_comm (isN_good a1) (isN_good b1)]
  cases h1 : (nS a).Two <;> cases h2 : (nS b).Two
  · rfl
  · rfl
  · rfl
  · simp only [Bool.and_self, if_true]
    rw [farH_comm (isN_good (a2 h1)) (isN_good (b2 h2))]
theorem farG_zero {a b : Sign} (ga : gSign a = true) (gb : gSign b = true) : farG a b = 0 ↔ nS a = nS b := by
  obtain ⟨a1, a2, a3⟩ := nS_isN ga
  obtain ⟨b1, b2, b3⟩ := nS_isN gb
  have hm := (farH_eqs (k := 100) (isN_good a1) (isN_good b1) (by omega)).2.2.1
  constructor
  · intro h
    unfold farG farN at h
    cases h1 : (nS a).Two <;> cases h2 : (nS b).Two
    · rw [h1, h2] at h
      simp at h
      have e := farH_zero a1 b1 h
      have e2 : (nS a).Other = (nS b).Other := by rw [a3 h1, b3 h2]
      generalize nS a = x at *
      generalize nS b = y at *
      cases x
      cases y
      simp_all
    · rw [h1, h2] at h
      simp at h
      omega
    · rw [h1, h2] at h
      simp at h
      omega
    · rw [h1, h2] at h
      simp only [Bool.and_self, if_true] at h
      have ho := (farH_eqs (k := 100) (isN_good (a2 h1)) (isN_good (b2 h2)) (by omega)).2.2.1
      have e := farH_zero a1 b1 (by omega)
      have e2 := farH_zero (a2 h1) (b2 h2) (by omega)
      generalize nS a = x at *
      generalize nS b = y at *
      cases x
      cases y
      simp_all
  · intro h
    unfold farG farN
    rw [← h, farH_self (isN_good a1)]
    cases h1 : (nS a).Two
    · rfl
    · simp only [Bool.and_self, if_true]
      rw [farH_self (isN_good (a2 h1))]
      rfl
end Go.Proofs.XC
