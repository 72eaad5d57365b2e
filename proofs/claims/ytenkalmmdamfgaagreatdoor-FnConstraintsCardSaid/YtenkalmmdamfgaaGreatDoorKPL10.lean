/- Plain laws of the plain functions: no program, no memory. By AI agents; no person has read it. -/
import Derived.Test.YtenkalmmdamfgaaGreatDoorKPL9
set_option linter.unusedVariables false
set_option linter.unusedSimpArgs false
set_option maxRecDepth 100000
set_option maxHeartbeats 40000000
namespace Go.Proofs.XC
open Go Go.RowKit
/-! ### Texts of constraints -/
def nmL : List Str := [([115, 116, 101, 112, 115] : Str), ([114, 101, 103, 105, 111, 110] : Str), ([111, 112, 101, 110] : Str), ([107, 105, 110, 100] : Str), ([98, 101, 108, 111, 119] : Str)]
def nmC (z : Int) : Str := if z = 0 then [115, 116, 101, 112, 115] else if z = 1 then [114, 101, 103, 105, 111, 110] else if z = 2 then [111, 112, 101, 110] else if z = 3 then [107, 105, 110, 100] else [98, 101, 108, 111, 119]
def numT (z : Int) : Str := if z < 10 then [UInt8.ofNat (48 + z.toNat)] else [49, UInt8.ofNat (48 + (z - 10).toNat)]
def textC (x : Constraint) : Str := nmC x.Kind ++ [61] ++ numT x.Value
theorem getNm {z : Int} (h0 : 0 ≤ z) (h1 : z ≤ 4) : getI nmL z = some (nmC z) := by
  have : z = 0 ∨ z = 1 ∨ z = 2 ∨ z = 3 ∨ z = 4 := by omega
  rcases this with rfl | rfl | rfl | rfl | rfl <;> rfl
theorem cases19 {z : Int} (h0 : 0 ≤ z) (h1 : z ≤ 18) : z = 0 ∨ z = 1 ∨ z = 2 ∨ z = 3 ∨ z = 4 ∨ z = 5 ∨ z = 6 ∨ z = 7 ∨ z = 8 ∨ z = 9 ∨ z = 10 ∨ z = 11 ∨ z = 12 ∨ z = 13 ∨ z = 14 ∨ z = 15 ∨ z = 16 ∨ z = 17 ∨ z = 18 := by omega
theorem itoaT {z : Int} (h0 : 0 ≤ z) (h1 : z ≤ 18) : X.strconv_Itoa z = some (numT z) := by
  unfold X.strconv_Itoa numT
  rw [if_pos ⟨h0, by omega⟩, Lib.decDigits]
  by_cases h : z < 10
  · rw [dif_pos (by omega), if_pos h]
  · rw [dif_neg (by omega), if_neg h]
    have e1 : z.toNat / 10 = 1 := by omega
    have e2 : z.toNat % 10 = (z - 10).toNat := by omega
    rw [e1, e2, Lib.decDigits, dif_pos (by omega)]
    rfl
theorem numTs {z : Int} (k : Nat) (h0 : 0 ≤ z) (h1 : z ≤ 18) : X.s_l1Num (k + 2) z = some (numT z) := by
  rcases cases19 h0 h1 with rfl | rfl | rfl | rfl | rfl | rfl | rfl | rfl | rfl | rfl | rfl | rfl | rfl | rfl | rfl | rfl | rfl | rfl | rfl <;> rfl
theorem numT_len (z : Int) : (numT z).length ≤ 2 := by unfold numT; split <;> simp
theorem nmC_len (z : Int) : (nmC z).length ≤ 6 := by unfold nmC; (repeat' split) <;> simp
theorem textC_len (x : Constraint) : (textC x).length ≤ 9 := by
  unfold textC
  have := numT_len x.Value
  have := nmC_len x.Kind
  simp
  omega
theorem i_text_eq {x : Constraint} (g : gCon x = true) : X.i_Constraint_text x = some (textC x) := by
  obtain ⟨h0, h1, h2, h3⟩ := gCon_bnd g
  unfold X.i_Constraint_text
  have e := getNm h0 h1
  unfold nmL at e
  have := numT_len x.Value
  have := nmC_len x.Kind
  rw [e, bind_some, catS_of (by simp; omega), bind_some, itoaT h2 h3, bind_some, catS_of (by simp; omega)]
  rfl
def vCT (x : Constraint) : Str × Bool := if gCon x = true then (textC x, true) else ([], false)
theorem i_CT_eq (x : Constraint) : X.i_ConstraintText x = some (vCT x) := by
  unfold X.i_ConstraintText vCT
  rw [i_IsConstraint_eq, bind_some]
  cases g : gCon x
  · rfl
  · rw [Bool.not_true, cond_false, i_text_eq g]
    rfl
theorem s_CT_eq {k : Nat} (x : Constraint) (hk : 2000010 ≤ k) : X.s_ConstraintText k x = some (vCT x) := by
  unfold X.s_ConstraintText vCT
  rw [s_ruGood_eq, bind_some]
  cases g : gCon x
  · rfl
  · obtain ⟨h0, h1, h2, h3⟩ := gCon_bnd g
    obtain ⟨q, rfl⟩ : ∃ q, k = q + 2 := ⟨k - 2, by omega⟩
    have e := getNm h0 h1
    have := numT_len x.Value
    have := nmC_len x.Kind
    unfold X.s_ruNames
    rw [Bool.not_true, cond_false, bind_some, numTs q h2 h3, bind_some]
    unfold nmL at e
    rw [e, bind_some, catS_of (by simp; omega), bind_some, catS_of (by simp; omega)]
    rfl
/-! ### Reading -/
def spC (c : UInt8) : Str → Str → List Str
  | cur, [] => [cur]
  | cur, x :: r => if x = c then cur :: spC c [] r else spC c (cur ++ [x]) r
theorem spC_one (c : UInt8) : ∀ (r cur p : Str), spC c cur r = [p] → p = cur ++ r
  | [], cur, p, h => by
    rw [spC] at h
    injection h with h1 _
    rw [← h1, List.append_nil]
  | x :: r, cur, p, h => by
    rw [spC] at h
    by_cases hx : x = c
    · rw [if_pos hx] at h
      injection h with _ h2
      have hne : spC c [] r ≠ [] := by
        cases r with
        | nil => simp [spC]
        | cons y r =>
          have : ∀ (r cur : Str), spC c cur r ≠ [] := by
            intro r
            induction r with
            | nil => intro cur; simp [spC]
            | cons z r ih =>
              intro cur
              rw [spC]
              split
              · simp
              · exact ih _
          exact this _ _
      exact absurd h2 hne
    · rw [if_neg hx] at h
      rw [spC_one c r _ p h]
      simp
theorem spC_two (c : UInt8) : ∀ (r cur p q : Str), spC c cur r = [p, q] → cur ++ r = p ++ [c] ++ q
  | [], cur, p, q, h => by
    rw [spC] at h
    simp at h
  | x :: r, cur, p, q, h => by
    rw [spC] at h
    by_cases hx : x = c
    · rw [if_pos hx] at h
      injection h with h1 h2
      have h3 := spC_one c r [] q h2
      rw [h3, ← h1, hx]
      simp
    · rw [if_neg hx] at h
      rw [← spC_two c r _ p q h]
      simp
theorem appT1 {l m : List Str} (h : l.length + m.length ≤ 100000) : appG eS l m = some (l ++ m) := by
  unfold appG
  have hb : eS.by_ = 16 := rfl
  rw [if_pos (by rw [hb]; omega)]
theorem ls_eq {k : Nat} (s : Str) (hs : s.length ≤ 1000) (hk : 2000 ≤ k) : X.s_l1Split k s 61 = some (spC 61 [] s) := by
  unfold X.s_l1Split
  have gen : ∀ (r : Str) (i from_ K : Nat) (acc : List Str), s.drop i = r → i ≤ s.length → from_ ≤ i → acc.length ≤ i → r.length < K →
      Option.bind (loopM (fun (⟨n1, n2, l3⟩ : Int × Int × List Str) => (bif decide (n2 < (List.length s : Int)) then (Option.bind (getB s n2) fun y6_2 => (bif (y6_2 == 61) then (Option.bind (cutS s n1 n2) fun y7_4 => (Option.bind (appG eS l3 ([y7_4] : List Str)) fun y7_6 => some (.inl ((wr (n2 + 1)), (wr (n2 + 1)), y7_6)))) else some (.inl (n1, (wr (n2 + 1)), l3)))) else some (.inr (n1, l3)))) K ((from_ : Int), (i : Int), acc)) (fun ⟨n6, l7⟩ => (Option.bind (cutS s n6 (List.length s : Int)) fun y9_3 => (Option.bind (appG eS l7 ([y9_3] : List Str)) fun y9_5 => some y9_5))) = some (acc ++ spC 61 ((s.drop from_).take (i - from_)) r) := by
    intro r
    induction r with
    | nil =>
      intro i from_ K acc hd hi hf ha hK
      have hle : s.length ≤ i := List.drop_eq_nil_iff.1 hd
      have he : i = s.length := by omega
      subst he
      obtain ⟨n, rfl⟩ : ∃ n, K = n + 1 := ⟨K - 1, by simp at hK; omega⟩
      rw [loopM_succ]
      simp only [decE, cond_false, bind_some]
      have hc : cutS s (from_ : Int) (s.length : Int) = some ((s.drop from_).take (s.length - from_)) := by
        unfold cutS
        rw [if_pos (by omega)]
        congr 2
        omega
      rw [hc, bind_some, appT1 (by simp; omega)]
      rfl
    | cons x r ih =>
      intro i from_ K acc hd hi hf ha hK
      have hx : s[i]? = some x := by
        have := congrArg (fun l => l[0]?) hd
        simpa using this
      have hlt := some_len hx
      have hd' : s.drop (i + 1) = r := by rw [← List.drop_drop (i := 1) (j := i), hd]; rfl
      obtain ⟨n, rfl⟩ : ∃ n, K = n + 1 := ⟨K - 1, by omega⟩
      rw [loopM_succ]
      simp only [decL hlt, cond_true, getB_of hx, bind_some, wr_suc (show i ≤ 4611686018427387904 by omega)]
      have hcut : cutS s (from_ : Int) (i : Int) = some ((s.drop from_).take (i - from_)) := by
        unfold cutS
        rw [if_pos (by omega)]
        congr 2
        omega
      by_cases hc : x = 61
      · subst hc
        have hb : ((((61 : UInt8).toNat : Nat) : Int) == 61) = true := rfl
        simp only [hb, cond_true, hcut, bind_some, appT1 (show acc.length + [(s.drop from_).take (i - from_)].length ≤ 100000 by simp; omega)]
        rw [ih (i + 1) (i + 1) n _ hd' (by omega) (Nat.le_refl _) (by simp; omega) (by simp at hK; omega), spC, if_pos rfl]
        simp
      · have hb : (((x.toNat : Nat) : Int) == 61) = false := by
          rw [beq_eq_false_iff_ne]
          intro e
          have : x.toNat = 61 := by omega
          exact hc (UInt8.toNat_inj.1 (by rw [this]; rfl))
        simp only [hb, cond_false, bind_some]
        rw [ih (i + 1) from_ n acc hd' (by omega) (by omega) (by omega) (by simp at hK; omega), spC, if_neg hc]
        congr 3
        rw [show i + 1 - from_ = (i - from_) + 1 by omega, List.take_succ_eq_append_getElem (by rw [List.length_drop]; omega)]
        congr 2
        rw [List.getElem_drop]
        have : s[from_ + (i - from_)]? = some x := by rw [show from_ + (i - from_) = i by omega]; exact hx
        rw [List.getElem?_eq_getElem (by omega)] at this
        exact Option.some.inj this
  have := gen s 0 0 k [] rfl (Nat.zero_le _) (Nat.le_refl _) (Nat.le_refl _) (by omega)
  simpa using this
def bd (i : Nat) : Int := if i = 0 then 9 else if i = 1 then 99 else if i = 2 then 999 else if i = 3 then 9999 else if i = 4 then 99999 else if i = 5 then 999999 else 9999999
theorem bd_step {i : Nat} (h : i ≤ 5) : 10 * bd i + 9 ≤ bd (i + 1) := by
  have : i = 0 ∨ i = 1 ∨ i = 2 ∨ i = 3 ∨ i = 4 ∨ i = 5 := by omega
  rcases this with rfl | rfl | rfl | rfl | rfl | rfl <;> decide
theorem bd_le (i : Nat) : bd i ≤ 9999999 := by unfold bd; (repeat' split) <;> omega
theorem wk8 {n : Nat} (h : n < 256) : wk .u8 (n : Int) = (n : Int) := by
  show IntKind.wrap .u8 (n : Int) = (n : Int)
  simp only [IntKind.wrap, IntKind.bits, IntKind.signed, Bool.false_and, Bool.false_eq_true, if_false]
  omega
/-- The digits that follow, read on top of what was read. -/
theorem rd_loop (s : Str) (hs : s.length ≤ 6) : ∀ (r : Str) (i K : Nat) (n : Int), s.drop i = r → i ≤ s.length → 0 ≤ n → n ≤ bd i → r.length < K →
    ∃ v, orEl (loopM (fun (⟨n4, n5⟩ : Int × Int) => (bif decide (n5 < (List.length s : Int)) then (Option.bind (getB s n5) fun y7_2 => (bif decide (y7_2 < 48) then some (.inr (Sum.inl (-1))) else (bif decide (y7_2 > 57) then some (.inr (.inl (-1))) else some (.inl ((wr ((wr (10 * n4)) + (wr (wk .u8 (y7_2 - 48))))), (wr (n5 + 1))))))) else some (.inr (.inr n4)))) K (n, (i : Int))) (fun r => some r) (fun n6 => some n6) = some v ∧ (v = -1 ∨ (n ≤ v ∧ ∃ ds : List Nat, r = ds.map (fun d => UInt8.ofNat (48 + d)) ∧ (∀ d ∈ ds, d ≤ 9) ∧ v = ds.foldl (fun (a : Int) (d : Nat) => 10 * a + (d : Int)) n)) := by
  intro r
  induction r with
  | nil =>
    intro i K n hd hi h0 h1 hK
    have hle : s.length ≤ i := List.drop_eq_nil_iff.1 hd
    have he : i = s.length := by omega
    subst he
    obtain ⟨m, rfl⟩ : ∃ m, K = m + 1 := ⟨K - 1, by simp at hK; omega⟩
    rw [loopM_succ]
    simp only [decE, cond_false, bind_some]
    exact ⟨n, rfl, .inr ⟨Int.le_refl _, [], rfl, (fun d hd => by cases hd), rfl⟩⟩
  | cons x r ih =>
    intro i K n hd hi h0 h1 hK
    have hx : s[i]? = some x := by
      have := congrArg (fun l => l[0]?) hd
      simpa using this
    have hlt := some_len hx
    have hd' : s.drop (i + 1) = r := by rw [← List.drop_drop (i := 1) (j := i), hd]; rfl
    obtain ⟨m, rfl⟩ : ∃ m, K = m + 1 := ⟨K - 1, by omega⟩
    rw [loopM_succ]
    simp only [decL hlt, cond_true, getB_of hx, bind_some]
    by_cases h48 : ((x.toNat : Nat) : Int) < 48
    · rw [decide_eq_true h48]
      exact ⟨-1, rfl, .inl rfl⟩
    rw [decide_eq_false h48, cond_false]
    by_cases h57 : ((x.toNat : Nat) : Int) > 57
    · rw [decide_eq_true h57]
      exact ⟨-1, rfl, .inl rfl⟩
    rw [decide_eq_false h57, cond_false, bind_some]
    dsimp only
    have hb := bd_le i
    have hb2 := bd_step (i := i) (by omega)
    have hw0 : wk .u8 (((x.toNat : Nat) : Int) - 48) = ((x.toNat : Nat) : Int) - 48 := by
      have : (((x.toNat : Nat) : Int) - 48) = ((x.toNat - 48 : Nat) : Int) := by omega
      rw [this]
      exact wk8 (by omega)
    have w1 : wr (10 * n) = 10 * n := wr_of (by omega) (by omega)
    have w2 : wr (((x.toNat : Nat) : Int) - 48) = ((x.toNat : Nat) : Int) - 48 := wr_of (by omega) (by omega)
    have w3 : wr (10 * n + (((x.toNat : Nat) : Int) - 48)) = 10 * n + (((x.toNat : Nat) : Int) - 48) := wr_of (by omega) (by omega)
    rw [hw0, w1, w2, w3, wr_suc (show i ≤ 4611686018427387904 by omega)]
    obtain ⟨v, e, hv⟩ := ih (i + 1) m (10 * n + (((x.toNat : Nat) : Int) - 48)) hd' (by omega) (by omega) (by omega) (by simp at hK; omega)
    refine ⟨v, e, ?_⟩
    rcases hv with hv | ⟨hv, ds, e1, e2, e3⟩
    · exact .inl hv
    · refine .inr ⟨by omega, (x.toNat - 48) :: ds, ?_, ?_, ?_⟩
      · rw [List.map_cons, ← e1]
        congr 1
        have : 48 + (x.toNat - 48) = x.toNat := by omega
        rw [this]
        exact (UInt8.ofNat_toNat).symm
      · intro d hd
        rcases List.mem_cons.1 hd with rfl | hd
        · omega
        · exact e2 d hd
      · rw [List.foldl_cons, e3]
        congr 1
        omega
theorem fold_ge : ∀ (ds : List Nat) (n : Int), 0 ≤ n → n ≤ ds.foldl (fun (a : Int) (d : Nat) => 10 * a + (d : Int)) n
  | [], n, h => Int.le_refl _
  | d :: ds, n, h => by
    rw [List.foldl_cons]
    have := fold_ge ds (10 * n + (d : Int)) (by omega)
    omega
theorem digs {ds : List Nat} {v : Int} (hl : ds ≠ []) (h9 : ∀ d ∈ ds, d ≤ 9) (hv : v = ds.foldl (fun (a : Int) (d : Nat) => 10 * a + (d : Int)) 0) (h18 : v ≤ 18) (h0 : ds.head? ≠ some 0 ∨ ds.length ≤ 1) : ds.map (fun d => UInt8.ofNat (48 + d)) = numT v := by
  match ds, hl with
  | [a], _ =>
    have := h9 a (by simp)
    simp only [List.foldl_cons, List.foldl_nil] at hv
    have e : v = (a : Int) := by omega
    subst e
    unfold numT
    rw [if_pos (by omega)]
    rfl
  | [a, b], _ =>
    have ha : a ≠ 0 := by
      rcases h0 with h | h
      · intro e; subst e; simp at h
      · simp at h
    have h1 := h9 a (by simp)
    have h2 := h9 b (by simp)
    simp only [List.foldl_cons, List.foldl_nil] at hv
    have ea : a = 1 := by omega
    subst ea
    have e : v = 10 + (b : Int) := by omega
    subst e
    unfold numT
    rw [if_neg (by omega)]
    have : (10 + (b : Int) - 10).toNat = b := by omega
    rw [this]
    rfl
  | a :: b :: c :: ds, _ =>
    exfalso
    have ha : a ≠ 0 := by
      rcases h0 with h | h
      · intro e; subst e; simp at h
      · simp at h
    simp only [List.foldl_cons] at hv
    have := fold_ge ds (10 * (10 * (10 * 0 + (a : Int)) + (b : Int)) + (c : Int)) (by omega)
    omega
theorem read_ex {k : Nat} (s : Str) (hk : 2000010 ≤ k) : ∃ v, X.s_l1Read k s = some v ∧ (0 ≤ v → v ≤ 18 → s = numT v) := by
  unfold X.s_l1Read
  rw [s_l1In_eq, bind_some]
  cases hr : inR (s.length : Int) 1 6
  · exact ⟨-1, rfl, fun h => by omega⟩
  have hl := inR_iff.1 hr
  rw [Bool.not_true, cond_false]
  match s, hl with
  | x :: s, hl =>
  have hx : (x :: s)[0]? = some x := rfl
  have e0 : getB (x :: s) 0 = some (x.toNat : Int) := getB_of (i := 0) hx
  rw [e0, bind_some]
  have hl6 : (x :: s).length ≤ 6 := by omega
  obtain ⟨v, e, hv⟩ := rd_loop (x :: s) hl6 (x :: s) 0 k 0 rfl (by simp) (by omega) (by decide) (by omega)
  have key : ((x.toNat : Int) ≠ 48 ∨ (x :: s).length ≤ 1) → 0 ≤ v → v ≤ 18 → x :: s = numT v := by
    intro h0 h1 h2
    rcases hv with hv | ⟨_, ds, f1, f2, f3⟩
    · omega
    · have hne : ds ≠ [] := fun e => by subst e; cases f1
      rw [f1]
      refine digs hne f2 f3 h2 ?_
      rcases h0 with h0 | h0
      · left
        cases ds with
        | nil => cases f1
        | cons d ds =>
          rw [List.map_cons] at f1
          injection f1 with f1 _
          intro e
          rw [List.head?_cons] at e
          injection e with e
          subst e
          rw [f1] at h0
          exact h0 rfl
      · right
        have := congrArg List.length f1
        rw [List.length_map] at this
        omega
  by_cases h48 : (x.toNat : Int) = 48
  · rw [h48, beq_self_eq_true, cond_true]
    by_cases hlen : ((x :: s).length : Int) > 1
    · rw [decide_eq_true hlen]
      exact ⟨-1, rfl, fun h => by omega⟩
    · rw [decide_eq_false hlen, cond_false]
      exact ⟨v, e, key (.inr (by omega))⟩
  · have : ((x.toNat : Int) == 48) = false := beq_eq_false_iff_ne.2 h48
    rw [this, cond_false]
    exact ⟨v, e, key (.inl h48)⟩
/-! ### Parsing -/
def allC : List Constraint := (List.range 5).flatMap fun (a : Nat) => (List.range 19).map fun (v : Nat) => (⟨(a : Int), (v : Int)⟩ : Constraint)
theorem mem_allC {x : Constraint} (g : gCon x = true) : x ∈ allC := by
  obtain ⟨h0, h1, h2, h3⟩ := gCon_bnd g
  unfold allC
  rw [List.mem_flatMap]
  refine ⟨x.Kind.toNat, List.mem_range.2 (by omega), ?_⟩
  rw [List.mem_map]
  refine ⟨x.Value.toNat, List.mem_range.2 (by omega), ?_⟩
  cases x
  simp only at h0 h1 h2 h3
  simp only [Constraint.mk.injEq]
  omega
def pC (t : Str) (x : Constraint) : Bool := gCon x && decide (textC x = t)
def fC (t : Str) : Constraint × Bool := match allC.find? (pC t) with | some x => (x, true) | none => (zConstraint, false)
def parIn (k : Nat) (t : Str) (a : Int) : Int → Option (Int ⊕ (((Constraint × Bool) ⊕ Unit))) := fun n4 => (bif decide (n4 < 19) then (Option.bind (X.i_IsConstraint (⟨a, n4⟩ : Constraint)) fun v8_1 => (bif v8_1 then (Option.bind (X.i_Constraint_text (⟨a, n4⟩ : Constraint)) fun v8_4 => (bif (seq v8_4 t) then some (.inr (.inl ((⟨a, n4⟩ : Constraint), true))) else some (.inl (wr (n4 + 1))))) else some (.inl (wr (n4 + 1))))) else some (.inr (.inr ())))
theorem in_loop (k : Nat) (t : Str) (a : Int) : ∀ (d i K : Nat), i + d = 19 → d < K → loopM (parIn k t a) K (i : Int) = some (match ((List.range' i d).map fun (v : Nat) => (⟨a, (v : Int)⟩ : Constraint)).find? (pC t) with | some x => .inl (x, true) | none => .inr ())
  | 0, i, K, h, hK => by
    obtain ⟨m, rfl⟩ : ∃ m, K = m + 1 := ⟨K - 1, by omega⟩
    rw [loopM_succ]
    unfold parIn
    rw [decide_eq_false (by omega)]
    rfl
  | d + 1, i, K, h, hK => by
    obtain ⟨m, rfl⟩ : ∃ m, K = m + 1 := ⟨K - 1, by omega⟩
    have ih := in_loop k t a d (i + 1) m (by omega) (by omega)
    have hw : wr ((i : Int) + 1) = ((i + 1 : Nat) : Int) := wr_suc (by omega)
    rw [loopM_succ]
    have hb : parIn k t a (i : Int) = if pC t ⟨a, (i : Int)⟩ = true then some (.inr (.inl ((⟨a, (i : Int)⟩ : Constraint), true))) else some (.inl ((i + 1 : Nat) : Int)) := by
      unfold parIn pC
      rw [decide_eq_true (by omega), cond_true, i_IsConstraint_eq, bind_some, hw]
      cases g : gCon ⟨a, (i : Int)⟩
      · rfl
      · rw [cond_true, i_text_eq g, bind_some, seq_eq, Bool.true_and]
        by_cases h : textC ⟨a, (i : Int)⟩ = t
        · rw [decide_eq_true h]; rfl
        · rw [decide_eq_false h]; rfl
    rw [hb, List.range'_succ, List.map_cons, List.find?_cons]
    cases hp : pC t ⟨a, (i : Int)⟩
    · rw [if_neg (by simp)]
      exact ih
    · rw [if_pos rfl]
      rfl
def parOut (k : Nat) (t : Str) : Int → Option (Int ⊕ (((Constraint × Bool) ⊕ Unit))) := fun n1 => (bif decide (n1 ≤ 4) then (orEl (loopM (parIn k t n1) k 0) (fun r => some (.inr (.inl r))) (fun _ => some (.inl (wr (n1 + 1))))) else some (.inr (.inr ())))
theorem out_loop (k : Nat) (hk : 100 ≤ k) (t : Str) : ∀ (d i K : Nat), i + d = 5 → d < K → loopM (parOut k t) K (i : Int) = some (match ((List.range' i d).flatMap fun (a : Nat) => (List.range 19).map fun (v : Nat) => (⟨(a : Int), (v : Int)⟩ : Constraint)).find? (pC t) with | some x => .inl (x, true) | none => .inr ())
  | 0, i, K, h, hK => by
    obtain ⟨m, rfl⟩ : ∃ m, K = m + 1 := ⟨K - 1, by omega⟩
    rw [loopM_succ]
    unfold parOut
    rw [decide_eq_false (by omega)]
    rfl
  | d + 1, i, K, h, hK => by
    obtain ⟨m, rfl⟩ : ∃ m, K = m + 1 := ⟨K - 1, by omega⟩
    have ih := out_loop k hk t d (i + 1) m (by omega) (by omega)
    have hw : wr ((i : Int) + 1) = ((i + 1 : Nat) : Int) := wr_suc (by omega)
    have hin := in_loop k t (i : Int) 19 0 k rfl (by omega)
    rw [loopM_succ]
    have hb : parOut k t (i : Int) = orEl (loopM (parIn k t (i : Int)) k 0) (fun r => some (.inr (.inl r))) (fun _ => some (.inl (wr ((i : Int) + 1)))) := by
      unfold parOut
      rw [decide_eq_true (by omega), cond_true]
    have hin2 : loopM (parIn k t (i : Int)) k 0 = some (match ((List.range 19).map fun (v : Nat) => (⟨(i : Int), (v : Int)⟩ : Constraint)).find? (pC t) with | some x => .inl (x, true) | none => .inr ()) := by
      rw [List.range_eq_range']
      exact hin
    rw [hb, hin2, List.range'_succ, List.flatMap_cons, List.find?_append]
    cases hf : ((List.range 19).map fun (v : Nat) => (⟨(i : Int), (v : Int)⟩ : Constraint)).find? (pC t) with
    | some x => rfl
    | none =>
      rw [hw]
      exact ih
theorem i_Parse_eq {k : Nat} (t : Str) (hk : 2000010 ≤ k) : X.i_ParseConstraint k t = some (fC t) := by
  have h := out_loop k (by omega) t 5 0 k rfl (by omega)
  have e : X.i_ParseConstraint k t = orEl (loopM (parOut k t) k 0) (fun r => some r) (fun _ => some (zConstraint, false)) := rfl
  rw [e]
  have h2 : loopM (parOut k t) k 0 = some (match allC.find? (pC t) with | some x => .inl (x, true) | none => .inr ()) := by
    unfold allC
    rw [List.range_eq_range' (n := 5)]
    exact h
  rw [h2]
  unfold fC
  cases allC.find? (pC t) <;> rfl
theorem ruGood5 (j : Int) (v : Int) : X.s_ruGood (⟨j, v⟩ : Constraint) = some (gCon ⟨j, v⟩) := s_ruGood_eq _
/-- What the reference reads. -/
theorem s_Parse_ex {k : Nat} (t : Str) (ht : t.length ≤ 1000) (hk : 2000010 ≤ k) : ∃ r, X.s_ParseConstraint k t = some r ∧ (r = (zConstraint, false) ∨ ∃ x, r = (x, true) ∧ gCon x = true ∧ textC x = t) := by
  unfold X.s_ParseConstraint
  rw [ls_eq t ht (by omega), bind_some]
  by_cases h2 : (spC 61 [] t).length = 2
  · obtain ⟨p, q, epq⟩ : ∃ p q, spC 61 [] t = [p, q] := by
      match spC 61 [] t, h2 with
      | [p, q], _ => exact ⟨p, q, rfl⟩
    have et := spC_two 61 t [] p q epq
    rw [List.nil_append] at et
    rw [epq]
    have e0 : getI [p, q] 0 = some p := rfl
    have e1 : getI [p, q] 1 = some q := rfl
    have el : (((([p, q] : List Str).length : Int)) != 2) = false := rfl
    obtain ⟨v, ev, hv⟩ := read_ex (k := k) q hk
    unfold X.s_ruNames
    rw [el, cond_false, bind_some]
    have step : ∀ (nm : List Str) (j : Nat), (∀ (i : Nat) n, nm[i]? = some n → n = nmC ((j + i : Nat) : Int)) → ∃ r, orEl (rangeM (fun (j3 : Int) (x4 : Str) (_ : Unit) => (Option.bind (getI [p, q] 1) fun y7_2 => (Option.bind (X.s_l1Read k y7_2) fun v7_4 => (Option.bind (getI [p, q] 0) fun y8_2 => (bif (seq x4 y8_2) then (Option.bind (X.s_ruGood (⟨(j3 : Int), v7_4⟩ : Constraint)) fun v8_7 => (bif v8_7 then some (.inr (.inl ((⟨(j3 : Int), v7_4⟩ : Constraint), true))) else some (.inl ()))) else some (.inl ())))))) (fun _ => some (.inr ())) nm j ()) (fun r => some r) (fun _ => some (zConstraint, false)) = some r ∧ (r = (zConstraint, false) ∨ ∃ x, r = (x, true) ∧ gCon x = true ∧ textC x = t) := by
      intro nm
      induction nm with
      | nil => intro j _; exact ⟨_, rfl, .inl rfl⟩
      | cons n nm ih =>
        intro j hj
        have hn := hj 0 n rfl
        rw [Nat.add_zero] at hn
        have ih2 := ih (j + 1) fun i m hm => by
          rw [Nat.add_assoc, Nat.add_comm 1 i]
          exact hj (i + 1) m hm
        rw [rangeM_cons, e1, bind_some, ev, bind_some, e0, bind_some, seq_eq]
        by_cases hnp : n = p
        · rw [decide_eq_true hnp, cond_true, ruGood5, bind_some]
          cases g : gCon ⟨(j : Int), v⟩
          · exact ih2
          · obtain ⟨b0, b1, b2, b3⟩ := gCon_bnd g
            refine ⟨((⟨(j : Int), v⟩ : Constraint), true), rfl, .inr ⟨_, rfl, g, ?_⟩⟩
            have hq := hv b2 b3
            show nmC (j : Int) ++ [61] ++ numT v = t
            rw [← hn, ← hq, hnp]
            exact et.symm
        · rw [decide_eq_false hnp, cond_false]
          exact ih2
    exact step _ 0 fun i n hi => by
      match i, hi with
      | 0, hi => cases hi; rfl
      | 1, hi => cases hi; rfl
      | 2, hi => cases hi; rfl
      | 3, hi => cases hi; rfl
      | 4, hi => cases hi; rfl
      | i + 5, hi => cases hi
  · have : ((((spC 61 [] t).length : Int)) != 2) = true := by rw [bne_iff_ne]; omega
    rw [this]
    exact ⟨_, rfl, .inl rfl⟩
theorem s_all : ∀ x ∈ allC, gCon x = true → X.s_ParseConstraint 3000000 (textC x) = some (x, true) := by decide +kernel
theorem s_Parse_eq (t : Str) (ht : t.length ≤ 1000) : X.s_ParseConstraint 3000000 t = some (fC t) := by
  obtain ⟨r, e, hr⟩ := s_Parse_ex (k := 3000000) t ht (by omega)
  unfold fC
  cases hf : allC.find? (pC t) with
  | some x =>
    have hp := List.find?_some hf
    have hm := List.mem_of_find?_eq_some hf
    unfold pC at hp
    rw [Bool.and_eq_true, decide_eq_true_iff] at hp
    rw [← hp.2]
    exact s_all x hm hp.1
  | none =>
    rcases hr with hr | ⟨x, hr, g, hx⟩
    · rw [e, hr]
    · exfalso
      have := List.find?_eq_none.1 hf x (mem_allC g)
      unfold pC at this
      rw [g, decide_eq_true hx] at this
      exact this rfl
theorem fC_text {x : Constraint} (g : gCon x = true) : fC (textC x) = (x, true) := by
  have h1 := s_Parse_eq (textC x) (by have := textC_len x; omega)
  have h2 := s_all x (mem_allC g) g
  rw [h1] at h2
  exact Option.some.inj h2
/-! ### Broken constraints -/
def vBB (s : Sign) (Q : List Constraint) : List Int × Bool := if (gSign s && goodC Q) = true then (ixs (fun x => !(keepC x s)) Q 0, true) else ([], false)
theorem ixs_gen {body : Int → Constraint → List Int → Option (List Int ⊕ List Int)} (p : Constraint → Bool) : ∀ (l : List Constraint) (j : Nat) (acc : List Int), acc.length + l.length ≤ 1000 → (∀ x ∈ l, ∀ (i : Int) acc, body i x acc = if p x then Option.bind (appG (eI .i64) acc [i]) fun y => some (.inl y) else some (.inl acc)) → rangeM body (fun l => some l) l j acc = some (acc ++ ixs p l j)
  | [], j, acc, _, _ => by simp [rangeM_nil, ixs]
  | x :: l, j, acc, h, hb => by
    simp only [List.length_cons] at h
    have hb2 : ∀ y ∈ l, ∀ (i : Int) acc, body i y acc = if p y then Option.bind (appG (eI .i64) acc [i]) fun y => some (.inl y) else some (.inl acc) := fun y hy => hb y (List.mem_cons_of_mem _ hy)
    rw [rangeM_cons, hb x List.mem_cons_self, ixs]
    cases p x
    · exact ixs_gen p l (j + 1) acc (by omega) hb2
    · rw [if_pos rfl, appI (by omega), if_pos rfl]
      refine (ixs_gen p l (j + 1) (acc ++ [(j : Int)]) (by simp; omega) hb2).trans ?_
      simp
theorem i_BB_eq {k : Nat} {s : Sign} {Q : List Constraint} (hs : smallS s) (hQ : Q.length ≤ 100) (hk : 2000010 ≤ k) : X.i_BrokenBy k s Q = some (vBB s Q) := by
  unfold X.i_BrokenBy vBB
  rw [i_IsSign_eq hs (by omega), bind_some, i_areC_eq, bind_some]
  show (bif !gSign s then _ else bif !goodC Q then _ else _) = _
  cases g : gSign s
  · rfl
  cases goodC Q
  · rfl
  · simp only [Bool.not_true, cond_false, Bool.and_self, if_true]
    unfold X.i_those_i_Constraint
    rw [ixs_gen (fun x => !(keepC x s)) Q 0 [] (by simp; omega) fun x hx i acc => by
      unfold X.i_BrokenBy_1
      rw [i_kept_eq x g]
      simp only [bind_some]
      cases keepC x s <;> rfl]
    rfl
theorem s_BB_eq {k : Nat} {s : Sign} {Q : List Constraint} (hs : smallS s) (hQ : Q.length ≤ 100) (hk : 2000010 ≤ k) : X.s_BrokenBy k s Q = some (vBB s Q) := by
  unfold X.s_BrokenBy vBB
  rw [s_siGood_eq hs (by omega), bind_some, s_ruAll_eq, bind_some]
  show (bif !gSign s then _ else bif !goodC Q then _ else _) = _
  cases g : gSign s
  · rfl
  cases goodC Q
  · rfl
  · simp only [Bool.not_true, cond_false, Bool.and_self, if_true]
    unfold X.s_ruBroken
    rw [ixs_gen (fun x => !(keepC x s)) Q 0 [] (by simp; omega) fun x hx i acc => by
      rw [s_kept_eq x g (by omega)]
      simp only [bind_some]
      cases keepC x s <;> rfl]
    rfl
def vKC (s : Sign) (x : Constraint) : Bool × Bool := if (gSign s && gCon x) = true then (keepC x s, true) else (false, false)
theorem i_KC_eq {k : Nat} {s : Sign} (x : Constraint) (hs : smallS s) (hk : 2000010 ≤ k) : X.i_KeepsConstraint k s x = some (vKC s x) := by
  unfold X.i_KeepsConstraint vKC
  rw [i_IsSign_eq hs (by omega), bind_some, i_IsConstraint_eq, bind_some]
  cases g : gSign s
  · rfl
  cases gCon x
  · rfl
  · simp only [Bool.not_true, cond_false, Bool.and_self, if_true]
    rw [i_kept_eq x g]
    rfl
theorem s_KC_eq {k : Nat} {s : Sign} (x : Constraint) (hs : smallS s) (hk : 2000010 ≤ k) : X.s_KeepsConstraint k s x = some (vKC s x) := by
  unfold X.s_KeepsConstraint vKC
  rw [s_siGood_eq hs (by omega), bind_some, s_ruGood_eq, bind_some]
  cases g : gSign s
  · rfl
  cases gCon x
  · rfl
  · simp only [Bool.not_true, cond_false, Bool.and_self, if_true]
    rw [s_kept_eq x g (by omega)]
    rfl
theorem ixs_all (p : Constraint → Bool) : ∀ (l : List Constraint) (j : Nat), (((ixs (fun x => !(p x)) l j).length : Int) == 0) = l.all p := by
  intro l j
  rw [len0, ixs_none]
  induction l with
  | nil => rfl
  | cons x l ih => rw [List.any_cons, List.all_cons, ← ih]; cases p x <;> simp
/-! ### Draws -/
theorem breakDraw_ex {c : List Int} {k : Nat} (hc : okB8 c) (hk : 2000010 ≤ k) : ∃ L x, X.s_DrawBreakersOf k c = some (L, x) ∧ L.length ≤ 21 ∧ allT L := by
  unfold X.s_DrawBreakersOf
  obtain ⟨L, t, s, e, h, hn, hL⟩ := signList_ex (s := 0) hc Bg.start (by omega) hk
  rw [e, bind_some]
  dsimp only
  obtain ⟨x, t, s, e, h, _⟩ := constraint_ex (s := s) hc h (by omega)
  rw [e]
  exact ⟨L, x, rfl, hn, hL⟩
theorem textDraw_ex {c : List Int} (hc : okB8 c) : ∃ x, X.s_DrawConstraintText c = some x := by
  unfold X.s_DrawConstraintText X.s_DrawIsConstraint
  obtain ⟨x, t, s, e, h, _⟩ := constraint_ex (s := 0) hc Bg.start (by omega)
  rw [e]
  exact ⟨x, rfl⟩
theorem of_len {c : List Int} {t s : Int} {l : List Str} {m : Nat} (hc : okB8 c) (h : Bg m t) (hm : 2 ≤ m) (hl : l ≠ []) (hn : ∀ x ∈ l, x.length ≤ 100) : Dw (m - 2) (fun v : Str => v.length ≤ 100) (X.s_l1Cur_of c t s l) := (of_ex hc h hm hl).mono (Nat.le_refl _) fun v hv => hn v hv
theorem cut_some {s : Str} {a b : Int} (h0 : 0 ≤ a) (h1 : a ≤ b) (h2 : b ≤ s.length) : ∃ r, cutS s a b = some r ∧ (r.length : Int) = b - a := by
  unfold cutS
  rw [if_pos ⟨h0, h1, h2⟩]
  refine ⟨_, rfl, ?_⟩
  rw [List.length_take, List.length_drop]
  omega
theorem getB_ex {s : Str} {z : Int} (h0 : 0 ≤ z) (h1 : z < s.length) : ∃ v, getB s z = some v := by
  obtain ⟨n, rfl⟩ := Int.eq_ofNat_of_zero_le h0
  have h : n < s.length := by omega
  exact ⟨_, getB_of (List.getElem?_eq_getElem h)⟩
theorem spoil_loop {c : List Int} (hc : okB8 c) {al : Str} (hal : al ≠ []) {m : Nat} : ∀ (q K : Nat) (t s : Int) (w : Str), Bg (m + 6 * q) t → w.length + q ≤ 50 → q < K →
    ∃ w' t' s', loopM (σ := (Str × Int × Int × Int)) (fun ⟨t1, n2, n3, n4⟩ => (bif decide (n2 > 0) then (bif decide ((List.length t1 : Int) > 0) then (Option.bind (X.s_l1Cur_pick c n3 n4 (List.length t1 : Int)) fun v4_3 => (Option.bind (X.s_l1Cur_pick c v4_3.2.1 v4_3.2.2 (List.length al : Int)) fun v5_4 => (Option.bind (getB al v5_4.1) fun y5_5 => (Option.bind (X.s_l1Cur_pick c v5_4.2.1 v5_4.2.2 3) fun v6_1 => (bif (v6_1.1 == 0) then (Option.bind (cutS t1 0 v4_3.1) fun y9_2 => (Option.bind (catS y9_2 (strOf ([y5_5] : List Int))) fun y9_4 => (Option.bind (cutS t1 v4_3.1 (List.length t1 : Int)) fun y9_7 => (Option.bind (catS y9_4 y9_7) fun y9_8 => some (.inl (y9_8, (wr (n2 - 1)), v6_1.2.1, v6_1.2.2)))))) else (bif (v6_1.1 == 1) then (Option.bind (cutS t1 0 v4_3.1) fun y11_2 => (Option.bind (catS y11_2 (strOf ([y5_5] : List Int))) fun y11_4 => (Option.bind (cutS t1 (wr (v4_3.1 + 1)) (List.length t1 : Int)) fun y11_8 => (Option.bind (catS y11_4 y11_8) fun y11_9 => some (.inl (y11_9, (wr (n2 - 1)), v6_1.2.1, v6_1.2.2)))))) else (Option.bind (cutS t1 0 v4_3.1) fun y7_2 => (Option.bind (cutS t1 (wr (v4_3.1 + 1)) (List.length t1 : Int)) fun y7_6 => (Option.bind (catS y7_2 y7_6) fun y7_7 => some (.inl (y7_7, (wr (n2 - 1)), v6_1.2.1, v6_1.2.2))))))))))) else some (.inr (t1, n3, n4))) else some (.inr (t1, n3, n4)))) K (w, (q : Int), t, s) = some (w', t', s') ∧ Bg m t' ∧ w'.length ≤ 100 := by
  intro q
  induction q with
  | zero =>
    intro K t s w h hn hK
    obtain ⟨f, rfl⟩ : ∃ f, K = f + 1 := ⟨K - 1, by omega⟩
    rw [loopM_succ]
    dsimp only
    rw [decide_eq_false (by omega), cond_false]
    exact ⟨w, t, s, rfl, h.le (by omega), by omega⟩
  | succ q ih =>
    intro K t s w h hn hK
    obtain ⟨f, rfl⟩ : ∃ f, K = f + 1 := ⟨K - 1, by omega⟩
    rw [loopM_succ]
    dsimp only
    rw [decide_eq_true (by omega), cond_true]
    by_cases hw : (w.length : Int) > 0
    · rw [decide_eq_true hw, cond_true]
      obtain ⟨a, t, s, e, h, ha⟩ := pick_ex (c := c) (t := t) (s := s) (n := (w.length : Int)) hc h (by omega)
      rw [e, bind_some]
      dsimp only
      have hal2 : 0 < al.length := List.length_pos_iff.2 hal
      obtain ⟨b, t, s, e, h, hb⟩ := pick_ex (c := c) (t := t) (s := s) (n := (al.length : Int)) hc h (by omega)
      rw [e, bind_some]
      dsimp only
      obtain ⟨y, ey⟩ := getB_ex (s := al) hb.1 (by have := hb.2; omega)
      rw [ey, bind_some]
      obtain ⟨z, t, s, e, h, _⟩ := pick_ex (c := c) (t := t) (s := s) (n := 3) hc h (by omega)
      rw [e, bind_some]
      dsimp only
      have hw1 : wr (((q + 1 : Nat) : Int) - 1) = (q : Int) := by rw [wr_of (by omega) (by omega)]; omega
      have hw2 : wr (a + 1) = a + 1 := wr_of (by omega) (by have := ha.2; omega)
      have halt : a < w.length := by have := ha.2; omega
      obtain ⟨p, ep, lp⟩ := cut_some (s := w) (a := 0) (b := a) (by omega) ha.1 (by omega)
      obtain ⟨r1, er1, lr1⟩ := cut_some (s := w) (a := a) (b := w.length) ha.1 (by omega) (by omega)
      obtain ⟨r2, er2, lr2⟩ := cut_some (s := w) (a := a + 1) (b := w.length) (by omega) (by omega) (by omega)
      have l1 : (strOf ([y] : List Int)).length = 1 := rfl
      rw [hw1, hw2, ep, er1, er2]
      simp only [bind_some]
      cases z == 0
      · cases z == 1
        · rw [cond_false, cond_false, catS_of (by omega), bind_some, bind_some]
          exact ih f t s (p ++ r2) (h.le (by omega)) (by simp; omega) (by omega)
        · rw [cond_false, cond_true, catS_of (by omega), bind_some, catS_of (by simp; omega), bind_some, bind_some]
          exact ih f t s (p ++ strOf [y] ++ r2) (h.le (by omega)) (by simp [l1]; omega) (by omega)
      · rw [cond_true, catS_of (by omega), bind_some, catS_of (by simp; omega), bind_some, bind_some]
        exact ih f t s (p ++ strOf [y] ++ r1) (h.le (by omega)) (by simp [l1]; omega) (by omega)
    · rw [decide_eq_false hw, cond_false]
      exact ⟨w, t, s, rfl, h.le (by omega), by omega⟩
theorem spoilt_ex {c : List Int} {t s : Int} {m k : Nat} {w al : Str} (hc : okB8 c) (hal : al ≠ []) (hw : w.length ≤ 40) (h : Bg m t) (hm : 30 ≤ m) (hk : 2000010 ≤ k) : Dw (m - 30) (fun v : Str => v.length ≤ 100) (X.s_l1Cur_spoilt k c t s w al) := by
  unfold X.s_l1Cur_spoilt
  refine Dw.bind (pick_ex hc h (by omega)) fun v t s h hv => ?_
  dsimp only
  obtain ⟨v, rfl⟩ := Int.eq_ofNat_of_zero_le hv.1
  rw [wr20 1 v (by omega) (by omega)]
  obtain ⟨w', t, s, e, h, hl⟩ := spoil_loop hc hal (m := m - 20) (Int.toNat 1 + v) k t s w (h.le (by omega)) (by omega) (by omega)
  rw [e, bind_some]
  exact Dw.done h hl (by omega)
theorem parseDraw_ex {c : List Int} {k : Nat} (hc : okB8 c) (hk : 2000010 ≤ k) : ∃ w, X.s_DrawParseConstraint k c = some w ∧ w.length ≤ 100 := by
  unfold X.s_DrawParseConstraint
  obtain ⟨x, t, s, e, h, _⟩ := constraint_ex (s := 0) hc Bg.start (by omega)
  rw [e, bind_some]
  dsimp only
  rw [s_ruGood_eq, bind_some]
  have other : ∀ (t s : Int), Bg 1000 t → ∃ w, (Option.bind (X.s_l1Cur_of c t s ([([] : Str), ([61] : Str), ([115, 116, 101, 112, 115, 61] : Str), ([115, 116, 101, 112, 115, 61, 49, 57] : Str), ([115, 116, 101, 112, 115, 61, 48, 50] : Str), ([111, 112, 101, 110, 61, 53] : Str), ([107, 105, 110, 100, 61, 57] : Str), ([97, 98, 111, 118, 101, 61, 49] : Str), ([115, 116, 101, 112, 115, 61, 49, 61, 50] : Str)] : List Str)) fun v8_2 => some v8_2.1) = some w ∧ w.length ≤ 100 := by
    intro t s h
    obtain ⟨w, t, s, e, h, hw⟩ := of_len (s := s) (l := ([([] : Str), ([61] : Str), ([115, 116, 101, 112, 115, 61] : Str), ([115, 116, 101, 112, 115, 61, 49, 57] : Str), ([115, 116, 101, 112, 115, 61, 48, 50] : Str), ([111, 112, 101, 110, 61, 53] : Str), ([107, 105, 110, 100, 61, 57] : Str), ([97, 98, 111, 118, 101, 61, 49] : Str), ([115, 116, 101, 112, 115, 61, 49, 61, 50] : Str)] : List Str)) hc h (by omega) (by simp) (by decide)
    rw [e]
    exact ⟨w, rfl, hw⟩
  cases g : gCon x
  · exact other _ _ (h.le (by omega))
  · rw [cond_true]
    obtain ⟨v, t, s, e, h, _⟩ := one_ex (s := s) (n := 3) hc h (by omega)
    rw [e, bind_some]
    dsimp only
    cases v
    · obtain ⟨h0, h1, h2, h3⟩ := gCon_bnd g
      obtain ⟨q, rfl⟩ : ∃ q, k = q + 2 := ⟨k - 2, by omega⟩
      have en := getNm h0 h1
      have n1 := numT_len x.Value
      have n2 := nmC_len x.Kind
      unfold X.s_ruNames
      rw [Bool.not_false, cond_true, bind_some, numTs q h2 h3, bind_some]
      unfold nmL at en
      rw [en, bind_some, catS_of (by simp; omega), bind_some, catS_of (by simp; omega), bind_some]
      obtain ⟨v, t, s, e, h, _⟩ := one_ex (s := s) (n := 3) hc h (by omega)
      rw [e, bind_some]
      dsimp only
      cases v
      · exact ⟨_, rfl, by simp; omega⟩
      · obtain ⟨w, t, s, e, h, hw⟩ := spoilt_ex (k := q + 2) (s := s) (w := nmC x.Kind ++ [61] ++ numT x.Value) (al := ([61, 48, 49, 57, 107, 101, 110] : Str)) hc (by simp) (by simp; omega) h (by omega) hk
        rw [cond_true, e]
        exact ⟨w, rfl, hw⟩
    · exact other _ _ (h.le (by omega))
theorem Pure.FnConstraints (c : List Int) (o_c : okL okY c) (d : List Int) (o_d : okL okY d) : X.l_FnConstraints 3000000 c d = some true := by
  have hc := okB8_of o_c
  have hd := okB8_of o_d
  unfold X.l_FnConstraints
  cases decide ((wr ((List.length c : Int) + (List.length d : Int))) > 1048576) with
  | true => rfl
  | false =>
  rw [cond_false]
  obtain ⟨L, Q, e, hn, hL, hQ⟩ := lawful_ex (k := 3000000) hc (by omega)
  have hs : ∀ s ∈ L, smallS s := fun s h => tinyS_small (hL s h)
  rw [e, bind_some]
  dsimp only
  rw [i_Law_eq Q hs (by omega) (by omega), bind_some, s_Law_eq hs (by omega) (by omega) (by omega), bind_some]
  obtain ⟨M, x, e, hnM, hM⟩ := breakDraw_ex (k := 3000000) hd (by omega)
  have hsM : ∀ s ∈ M, smallS s := fun s h => tinyS_small (hM s h)
  rw [e, bind_some]
  dsimp only
  rw [i_BreakersOf_eq x hsM (by omega) (by omega), bind_some, s_BreakersOf_eq x hsM (by omega) (by omega), bind_some]
  obtain ⟨y, e⟩ := textDraw_ex hd
  rw [e, bind_some, i_CT_eq, bind_some, s_CT_eq y (by omega), bind_some]
  obtain ⟨w, e, hw⟩ := parseDraw_ex (k := 3000000) hd (by omega)
  rw [e, bind_some, i_Parse_eq w (by omega), bind_some, s_Parse_eq w (by omega), bind_some]
  refine bindB (v := false) ?_ ?_
  · have eq1 : seq (vCT y).1 (vCT y).1 = true := by rw [seq_eq]; simp
    have eq2 : qConstraint (fC w).1 (fC w).1 = true := by rw [qCon_iff]; simp
    simp only [beq_self_eq_true, Bool.not_true, cond_false, qInts_refl, bind_some, eq1, eq2]
    rw [i_IsConstraint_eq, bind_some]
    unfold vCT
    cases gCon y <;> rfl
  rw [cond_false]
  refine orElB (v := ()) ?_ ?_
  · by_cases g : (L.all gSign && decide (L.length ≤ 20) && (Q.all gCon && decide (Q.length ≤ 10))) = true
    · have e1 : vLaw L Q = (ixs (fun s => Q.all fun x => keepC x s) L 0, true) := by unfold vLaw; rw [if_pos g]
      rw [Bool.and_eq_true, Bool.and_eq_true, List.all_eq_true] at g
      obtain ⟨⟨g1, _⟩, gq⟩ := g
      rw [e1]
      dsimp only
      rw [cond_true]
      refine orElB (v := ()) ?_ rfl
      rw [range_all0]
      intro i s hi
      have ms := List.mem_of_getElem? hi
      have e2 : vBB s Q = (ixs (fun x => !(keepC x s)) Q 0, true) := by
        unfold vBB
        have : (gSign s && goodC Q) = true := by rw [g1 s ms]; exact gq
        rw [if_pos this]
      rw [i_BB_eq (hs s ms) (by omega) (by omega), bind_some, s_BB_eq (hs s ms) (by omega) (by omega), bind_some, e2]
      simp only [Bool.not_true, cond_false, qInts_refl, bind_some, qHas_eq]
      rw [at_ixs hi, ixs_all, beq_self_eq_true]
      rfl
    · unfold vLaw
      rw [if_neg g]
      rfl
  refine orElB (v := ()) ?_ ?_
  · by_cases g : (M.all gSign && decide (M.length ≤ 20) && gCon x) = true
    · have e1 : vBreak M x = (brk x M, true) := by unfold vBreak; rw [if_pos g]
      rw [Bool.and_eq_true, Bool.and_eq_true, List.all_eq_true] at g
      obtain ⟨⟨g1, _⟩, gx⟩ := g
      rw [e1]
      dsimp only
      rw [cond_true]
      refine orElB (v := ()) ?_ rfl
      rw [range_all0]
      intro i s hi
      have ms := List.mem_of_getElem? hi
      have e2 : vKC s x = (keepC x s, true) := by
        unfold vKC
        rw [g1 s ms, gx]
        rfl
      rw [i_KC_eq x (hsM s ms) (by omega), bind_some, s_KC_eq x (hsM s ms) (by omega), bind_some, e2]
      simp only [Bool.not_true, cond_false, qHas_eq, bind_some, beq_self_eq_true]
      unfold brk
      rw [at_ixs hi]
      cases keepC x s <;> rfl
    · unfold vBreak
      rw [if_neg g]
      rfl
  unfold vCT
  cases g : gCon y
  · rfl
  · simp only [if_true, cond_true]
    rw [i_Parse_eq _ (by omega), bind_some, fC_text g]
    have : qConstraint y y = true := by rw [qCon_iff]; simp
    rw [cond_true, this]
end Go.Proofs.XC
