/- Plain laws of the plain functions: no program, no memory. By AI agents; no person has read it. -/
import Derived.Test.YtjjhlccjfdcfcaaGreatDoorPL6
import Derived.Test.YtjjhlccjfdcfcaaGreatDoorPQ4
import Derived.Test.YtjjhlccjfdcfcaaGreatDoorPR1
import Derived.Test.YtjjhlccjfdcfcaaGreatDoorPR2
import Derived.Lib.SplitLaws
import Derived.Lib.IndexBytes
import Derived.Test.YtjjhlccjfdcfcaaGreatDoorPZ7
import Derived.Test.YtjjhlccjfdcfcaaGreatDoorPY
set_option linter.unusedVariables false
set_option linter.unusedSimpArgs false
set_option maxRecDepth 100000
set_option maxHeartbeats 40000000
namespace Go.Proofs.XC
open Go Go.RowKit
/-! ### Gaps -/
def gp (a b : Sign) : Int := farP a.Main.Place b.Main.Place + bi (!(a.Two == b.Two))
theorem gap_eqs {a b : Sign} (ga : gSign a = true) (gb : gSign b = true) : X.i_gap a b = some (gp a b) ∧ X.s_cmGap a b = some (gp a b) ∧ 0 ≤ gp a b ∧ gp a b ≤ 2000 := by
  have pa := (gHand_iff.1 (gSign_main ga)).2.2.1
  have pb := (gHand_iff.1 (gSign_main gb)).2.2.1
  obtain ⟨e1, e2, h0, h1⟩ := farP_eqs pa pb
  have w1 : wr (farP a.Main.Place b.Main.Place + 1) = farP a.Main.Place b.Main.Place + 1 := wr_of (by omega) (by omega)
  have t1 := bi_bd (!(a.Two == b.Two))
  refine ⟨?_, ?_, by unfold gp; omega, by unfold gp; omega⟩
  · unfold X.i_gap gp
    rw [e1, bind_some, w1]
    cases h : a.Two == b.Two <;> simp [bi]
  · unfold X.s_cmGap gp
    rw [e2, bind_some, w1]
    cases h : a.Two == b.Two <;> simp [bi]
def gs : List Sign → Int
  | a :: b :: t => gp a b + gs (b :: t)
  | _ => 0
theorem gs_bd : ∀ (l : List Sign), (∀ x ∈ l, gSign x = true) → 0 ≤ gs l ∧ gs l ≤ 2000 * (l.length : Int)
  | [], _ => by simp [gs]
  | [a], _ => by simp [gs]
  | a :: b :: t, h => by
    have h1 := gs_bd (b :: t) fun x hx => h x (List.mem_cons_of_mem _ hx)
    obtain ⟨_, _, g0, g1⟩ := gap_eqs (h a (by simp)) (h b (by simp))
    rw [gs]
    simp only [List.length_cons] at h1 ⊢
    omega
theorem get_at {α : Type} {l : List α} {i : Nat} {x : α} {r : List α} (h : l.drop i = x :: r) : l[i]? = some x ∧ l.drop (i + 1) = r := by
  constructor
  · have := congrArg (fun l => l[0]?) h
    simpa using this
  · rw [← List.drop_drop (i := 1) (j := i), h]
    rfl
theorem i_gaps_loop (l : List Sign) (hl : l.length ≤ 1000) (hg : ∀ x ∈ l, gSign x = true) : ∀ (r : List Sign) (p : Sign) (i K : Nat) (acc : Int), l.drop i = p :: r → r.length < K → 0 ≤ acc → acc ≤ 2000 * (i : Int) →
    loopM (fun (⟨n1, n2⟩ : Int × Int) => (bif decide (n2 < (List.length l : Int)) then (Option.bind (getI l (wr (n2 - 1))) fun y5_4 => (Option.bind (getI l n2) fun y5_8 => (Option.bind (X.i_gap y5_4 y5_8) fun v5_10 => some (Sum.inl ((wr (n1 + v5_10)), (wr (n2 + 1))))))) else some (Sum.inr n1))) K (acc, ((i + 1 : Nat) : Int)) = some (acc + gs (p :: r))
  | [], p, i, K, acc, hd, hK, h0, h1 => by
    obtain ⟨m, rfl⟩ : ∃ m, K = m + 1 := ⟨K - 1, by simp at hK; omega⟩
    have hlen : l.length = i + 1 := by
      have := congrArg List.length hd
      simp at this
      omega
    rw [loopM_succ]
    simp only [hlen, decE, cond_false, bind_some]
    simp [gs]
  | b :: r, p, i, K, acc, hd, hK, h0, h1 => by
    obtain ⟨m, rfl⟩ : ∃ m, K = m + 1 := ⟨K - 1, by simp at hK; omega⟩
    obtain ⟨hp, hd2⟩ := get_at hd
    obtain ⟨hb, hd3⟩ := get_at hd2
    have hlt := some_len hb
    have e1 : wr (((i + 1 : Nat) : Int) - 1) = (i : Int) := by rw [wr_of (by omega) (by omega)]; omega
    obtain ⟨e2, _, g0, g1⟩ := gap_eqs (hg p (List.mem_of_getElem? hp)) (hg b (List.mem_of_getElem? hb))
    rw [loopM_succ]
    simp only [decL hlt, cond_true, e1, getI_of hp, getI_of hb, bind_some, e2]
    rw [wr_of (z := acc + gp p b) (by omega) (by omega), wr_suc (by omega)]
    rw [i_gaps_loop l hl hg r b (i + 1) m (acc + gp p b) hd2 (by simp at hK; omega) (by omega) (by omega), gs]
    congr 1
    omega
theorem i_gapsIn_eq {k : Nat} (l : List Sign) (hl : l.length ≤ 1000) (hg : ∀ x ∈ l, gSign x = true) (hk : 1000 < k) : X.i_gapsIn k l = some (gs l) := by
  unfold X.i_gapsIn
  match l, hl, hg with
  | [], _, _ =>
    obtain ⟨m, rfl⟩ : ∃ m, k = m + 1 := ⟨k - 1, by omega⟩
    rfl
  | p :: r, hl, hg =>
    have := i_gaps_loop (p :: r) hl hg r p 0 k 0 rfl (by simp at hl; omega) (by omega) (by omega)
    rw [show (((0 + 1 : Nat) : Int)) = 1 from rfl] at this
    rw [this, bind_some]
    simp
/-- The signs at these places. -/
def sg (l : List Sign) (o : List Int) : List Sign := o.map fun z => l.getD z.toNat zSign
def inO (n : Nat) (o : List Int) : Prop := ∀ z ∈ o, 0 ≤ z ∧ z < (n : Int)
theorem getI_sg {l : List Sign} {z : Int} (h : 0 ≤ z ∧ z < (l.length : Int)) : getI l z = some (l.getD z.toNat zSign) := by
  obtain ⟨n, rfl⟩ := Int.eq_ofNat_of_zero_le h.1
  have hlt : n < l.length := by omega
  rw [getI_of (List.getElem?_eq_getElem hlt), List.getD_eq_getElem?_getD]
  simp [List.getElem?_eq_getElem hlt]
theorem sg_good {l : List Sign} (hg : ∀ x ∈ l, gSign x = true) {o : List Int} (ho : inO l.length o) : ∀ x ∈ sg l o, gSign x = true := by
  intro x hx
  obtain ⟨z, hz, rfl⟩ := List.mem_map.1 hx
  have h := ho z hz
  have hlt : z.toNat < l.length := by omega
  rw [List.getD_eq_getElem?_getD, List.getElem?_eq_getElem hlt]
  exact hg _ (List.getElem_mem hlt)
theorem s_gaps_loop {ρ : Type} (F : Int → ρ) (l : List Sign) (hg : ∀ x ∈ l, gSign x = true) (o : List Int) (hl : o.length ≤ 1000) (ho : inO l.length o) : ∀ (r : List Int) (p : Int) (i K : Nat) (acc : Int), o.drop i = p :: r → r.length < K → 0 ≤ acc → acc ≤ 2000 * (i : Int) →
    loopM (fun (⟨n12, n13⟩ : Int × Int) => (bif decide (n13 < (List.length o : Int)) then (Option.bind (getI o (wr (n13 - 1))) fun y12_5 => (Option.bind (getI l y12_5) fun y12_7 => (Option.bind (getI o n13) fun y12_12 => (Option.bind (getI l y12_12) fun y12_14 => (Option.bind (X.s_cmGap y12_7 y12_14) fun v12_16 => some (Sum.inl ((wr (n12 + v12_16)), (wr (n13 + 1))))))))) else some (Sum.inr (F n12)))) K (acc, ((i + 1 : Nat) : Int)) = some (F (acc + gs (sg l (p :: r))))
  | [], p, i, K, acc, hd, hK, h0, h1 => by
    obtain ⟨m, rfl⟩ : ∃ m, K = m + 1 := ⟨K - 1, by simp at hK; omega⟩
    have hlen : o.length = i + 1 := by
      have := congrArg List.length hd
      simp at this
      omega
    rw [loopM_succ]
    simp only [hlen, decE, cond_false, bind_some]
    simp [sg, gs]
  | b :: r, p, i, K, acc, hd, hK, h0, h1 => by
    obtain ⟨m, rfl⟩ : ∃ m, K = m + 1 := ⟨K - 1, by simp at hK; omega⟩
    obtain ⟨hp, hd2⟩ := get_at hd
    obtain ⟨hb, hd3⟩ := get_at hd2
    have hlt := some_len hb
    have rp := ho p (List.mem_of_getElem? hp)
    have rb := ho b (List.mem_of_getElem? hb)
    have e1 : wr (((i + 1 : Nat) : Int) - 1) = (i : Int) := by rw [wr_of (by omega) (by omega)]; omega
    have hsg := sg_good hg ho
    obtain ⟨_, e2, g0, g1⟩ := gap_eqs (hsg (l.getD p.toNat zSign) (List.mem_map.2 ⟨p, List.mem_of_getElem? hp, rfl⟩)) (hsg (l.getD b.toNat zSign) (List.mem_map.2 ⟨b, List.mem_of_getElem? hb, rfl⟩))
    rw [loopM_succ]
    simp only [decL hlt, cond_true, e1, getI_of hp, getI_of hb, bind_some, getI_sg rp, getI_sg rb, e2]
    rw [wr_of (z := acc + gp (l.getD p.toNat zSign) (l.getD b.toNat zSign)) (by omega) (by omega), wr_suc (by omega)]
    rw [s_gaps_loop F l hg o hl ho r b (i + 1) m _ hd2 (by simp at hK; omega) (by omega) (by omega)]
    have : gs (sg l (p :: b :: r)) = gp (l.getD p.toNat zSign) (l.getD b.toNat zSign) + gs (sg l (b :: r)) := rfl
    rw [this]
    congr 2
    omega
theorem s_gaps_eq {ρ : Type} {K : Nat} (F : Int → ρ) (l : List Sign) (hg : ∀ x ∈ l, gSign x = true) (o : List Int) (hl : o.length ≤ 1000) (ho : inO l.length o) (hK : 1001 < K) :
    loopM (fun (⟨n12, n13⟩ : Int × Int) => (bif decide (n13 < (List.length o : Int)) then (Option.bind (getI o (wr (n13 - 1))) fun y12_5 => (Option.bind (getI l y12_5) fun y12_7 => (Option.bind (getI o n13) fun y12_12 => (Option.bind (getI l y12_12) fun y12_14 => (Option.bind (X.s_cmGap y12_7 y12_14) fun v12_16 => some (Sum.inl ((wr (n12 + v12_16)), (wr (n13 + 1))))))))) else some (Sum.inr (F n12)))) K (0, 1) = some (F (gs (sg l o))) := by
  match o, hl, ho with
  | [], _, _ =>
    obtain ⟨m, rfl⟩ : ∃ m, K = m + 1 := ⟨K - 1, by omega⟩
    rfl
  | p :: r, hl, ho =>
    have := s_gaps_loop F l hg (p :: r) hl ho r p 0 K 0 rfl (by simp at hl; omega) (by omega) (by omega)
    rw [show (((0 + 1 : Nat) : Int)) = 1 from rfl] at this
    rw [this]
    simp
end Go.Proofs.XC
