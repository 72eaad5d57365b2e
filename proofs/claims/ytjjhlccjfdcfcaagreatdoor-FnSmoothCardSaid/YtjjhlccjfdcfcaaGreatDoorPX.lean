/- Plain laws of the plain functions: no program, no memory. By AI agents; no person has read it. -/
import Derived.Test.YtjjhlccjfdcfcaaGreatDoorX
set_option linter.unusedVariables false
set_option linter.unusedSimpArgs false
set_option maxRecDepth 100000
set_option maxHeartbeats 40000000
namespace Go.Proofs.XC
open Go Go.RowKit

/-! ### Words -/
theorem wr_of {z : Int} (h1 : -9223372036854775808 ≤ z) (h2 : z ≤ 9223372036854775807) : wr z = z := by
  show IntKind.i64.wrap z = z
  rw [IntKind.wrap_i64]
  omega
theorem bind_some {α β : Type} (a : α) (f : α → Option β) : Option.bind (some a) f = f a := rfl
theorem loopM_succ {σ ρ : Type} (body : σ → Option (σ ⊕ ρ)) (n : Nat) (s : σ) : loopM body (n + 1) s = (body s).bind fun o => match o with | .inl s' => loopM body n s' | .inr r => some r := rfl
theorem orEl_inr {ρ σ β : Type} (s : σ) (G : ρ → Option β) (F : σ → Option β) : orEl (some (.inr s)) G F = F s := rfl
theorem rangeM_nil {α σ ρ : Type} (body : Int → α → σ → Option (σ ⊕ ρ)) (fin : σ → Option ρ) (j : Nat) (s : σ) : rangeM body fin [] j s = fin s := rfl
theorem rangeM_cons {α σ ρ : Type} (body : Int → α → σ → Option (σ ⊕ ρ)) (fin : σ → Option ρ) (x : α) (l : List α) (j : Nat) (s : σ) : rangeM body fin (x :: l) j s = (body j x s).bind fun o => match o with | .inl s' => rangeM body fin l (j + 1) s' | .inr r => some r := rfl
def inR (x a b : Int) : Bool := decide (a ≤ x) && decide (x ≤ b)
theorem inR_iff {x a b : Int} : inR x a b = true ↔ a ≤ x ∧ x ≤ b := by simp [inR]
theorem i_within_eq (x a b : Int) : X.i_within x a b = some (inR x a b) := by
  unfold X.i_within inR
  by_cases h : a ≤ x <;> simp [h]
theorem s_l1In_eq (x a b : Int) : X.s_l1In x a b = some (inR x a b) := i_within_eq x a b
/-- A search. -/
theorem find_eq {α : Type} (p : α → Bool) (F : α → Option Bool) : ∀ (l : List α) (j : Nat), (∀ x ∈ l, F x = some (p x)) →
    rangeM (fun (j2 : Int) (x3 : α) (_ : Unit) => (Option.bind (F x3) fun v => (bif v then some (.inr (Sum.inl j2)) else some (.inl ())))) (fun _ => some (Sum.inr ())) l j () = some (match l.findIdx? p with | some i => .inl ((j + i : Nat) : Int) | none => .inr ())
  | [], j, _ => rfl
  | x :: l, j, h => by
    rw [rangeM_cons, h x List.mem_cons_self]
    simp only [bind_some, List.findIdx?_cons]
    cases hp : p x with
    | true => simp [bind_some]
    | false =>
      simp only [cond_false, bind_some, Bool.false_eq_true, if_false]
      rw [find_eq p F l (j + 1) (fun y hy => h y (List.mem_cons_of_mem _ hy))]
      cases l.findIdx? p with
      | none => rfl
      | some i =>
        simp only [Option.map_some]
        congr 2
        omega
theorem anyF_eq {α : Type} (p : α → Bool) (F : α → Option Bool) (l : List α) (h : ∀ x ∈ l, F x = some (p x)) :
    (Option.bind (orEl (rangeM (fun (j2 : Int) (x3 : α) (_ : Unit) => (Option.bind (F x3) fun v => (bif v then some (.inr (Sum.inl j2)) else some (.inl ())))) (fun _ => some (Sum.inr ())) l 0 ()) (fun r => some r) (fun _ => some (-1))) fun v => some (decide (v ≥ 0))) = some (l.any p) := by
  rw [find_eq p F l 0 h]
  cases hf : l.findIdx? p with
  | none =>
    rw [List.findIdx?_eq_none_iff] at hf
    have : l.any p = false := by
      rw [List.any_eq_false]
      intro x hx
      simp [hf x hx]
    simp [orEl, this]
  | some i =>
    have : l.any p = true := by
      rw [List.any_eq_true]
      obtain ⟨h1, h2, _⟩ := List.findIdx?_eq_some_iff_getElem.1 hf
      exact ⟨_, List.getElem_mem h1, h2⟩
    simp [orEl, this]
theorem allIn_eq (l : List Int) (a b : Int) : X.i_allWithin l a b = some (l.all fun x => inR x a b) := by
  unfold X.i_allWithin X.slices_ContainsFunc_int_int X.slices_IndexFunc_int_int
  have := anyF_eq (fun x => !(inR x a b)) (X.i_allWithin_1 a b) l (fun x _ => by unfold X.i_allWithin_1; rw [i_within_eq]; rfl)
  rw [this]
  simp only [bind_some]
  congr 1
  rw [List.any_eq_not_all_not]
  simp
theorem s_l1All_eq (l : List Int) (a b : Int) : X.s_l1All l a b = some (l.all fun x => inR x a b) := by
  unfold X.s_l1All
  have key : ∀ (l : List Int) (j : Nat), rangeM (fun (j2 : Int) (x3 : Int) (_ : Unit) => (Option.bind (X.s_l1In x3 a b) fun v4_3 => (bif (!v4_3) then some (.inr (Sum.inl false)) else some (.inl ())))) (fun _ => some (Sum.inr ())) l j () = some (bif (l.all fun x => inR x a b) then .inr () else .inl false) := by
    intro l
    induction l with
    | nil => intro j; rfl
    | cons x l ih =>
      intro j
      rw [rangeM_cons, s_l1In_eq]
      cases h : inR x a b
      · simp [bind_some, h]
      · simp only [bind_some, Bool.not_true, cond_false, List.all_cons, h, Bool.true_and]
        exact ih _
  rw [key]
  cases (l.all fun x => inR x a b) <;> rfl

/-! ### Shapes -/
def wide (s : Shape) : Bool := (s.Index == 0 && s.Middle == 0) || (s.Middle == 0 && s.Ring == 0) || (s.Ring == 0 && s.Little == 0)
def gShape (s : Shape) : Bool := inR s.Thumb 0 2 && (inR s.Index 0 2 && (inR s.Middle 0 2 && (inR s.Ring 0 2 && inR s.Little 0 2))) && (!s.Spread || wide s)
theorem maySpread_eq (s : Shape) : X.i_Shape_maySpread s = some (wide s) := by
  unfold X.i_Shape_maySpread wide
  cases h1 : s.Index == 0 <;> cases h2 : s.Middle == 0 <;> cases h3 : s.Ring == 0 <;> cases h4 : s.Little == 0 <;> rfl
theorem i_IsShape_eq (s : Shape) : X.i_IsShape s = some (gShape s) := by
  unfold X.i_IsShape X.i_Shape_bends gShape
  simp only [bind_some, allIn_eq, maySpread_eq]
  have : appG (eI .i64) [s.Thumb] [s.Index, s.Middle, s.Ring, s.Little] = some [s.Thumb, s.Index, s.Middle, s.Ring, s.Little] := rfl
  rw [this]
  simp only [bind_some, allIn_eq, List.all_cons, List.all_nil, Bool.and_true]
  cases (inR s.Thumb 0 2 && (inR s.Index 0 2 && (inR s.Middle 0 2 && (inR s.Ring 0 2 && inR s.Little 0 2)))) <;> cases s.Spread <;> rfl
theorem s_shWide_eq (k : Nat) (s : Shape) : X.s_shWide (k + 4) s = some (wide s) := by
  unfold X.s_shWide X.s_shFingers wide
  have w : ∀ z : Int, -100 ≤ z → z ≤ 100 → wr z = z := fun z h1 h2 => wr_of (by omega) (by omega)
  simp only [bind_some, loopM_succ]
  cases h1 : s.Index == 0 <;> cases h2 : s.Middle == 0 <;> cases h3 : s.Ring == 0 <;> cases h4 : s.Little == 0 <;> simp [w, getI, h1, h2, h3, h4, orEl, bind_some]
theorem s_shGood_eq (k : Nat) (s : Shape) : X.s_shGood (k + 4) s = some (gShape s) := by
  unfold X.s_shGood X.s_shFingers gShape
  simp only [bind_some, s_l1In_eq, s_l1All_eq, s_shWide_eq, List.all_cons, List.all_nil, Bool.and_true]
  cases inR s.Thumb 0 2 <;> cases (inR s.Index 0 2 && (inR s.Middle 0 2 && (inR s.Ring 0 2 && inR s.Little 0 2))) <;> cases s.Spread <;> rfl

/-! ### Orientations, places -/
def opp (d : Int) : Int := if d.tmod 2 = 0 then d + 1 else d - 1
def gOrient (o : Orient) : Bool := inR o.Palm 0 5 && inR o.Fingers 0 5 && (o.Palm != o.Fingers && o.Palm != opp o.Fingers)
theorem inR_cases {x : Int} (h : inR x 0 5 = true) : x = 0 ∨ x = 1 ∨ x = 2 ∨ x = 3 ∨ x = 4 ∨ x = 5 := by
  rw [inR_iff] at h
  omega
theorem i_IsOrient_eq (o : Orient) : X.i_IsOrient o = some (gOrient o) := by
  unfold X.i_IsOrient gOrient
  simp only [bind_some, i_within_eq]
  cases h1 : inR o.Palm 0 5
  · rfl
  cases h2 : inR o.Fingers 0 5
  · rfl
  rcases inR_cases h1 with h | h | h | h | h | h <;> rcases inR_cases h2 with g | g | g | g | g | g <;> rw [h, g] <;> rfl
theorem s_orOpposite_eq {d : Int} (h : inR d 0 5 = true) : X.s_orOpposite d = some (opp d) := by
  rcases inR_cases h with h | h | h | h | h | h <;> rw [h] <;> rfl
theorem s_orGood_eq (o : Orient) : X.s_orGood o = some (gOrient o) := by
  unfold X.s_orGood X.s_orDir gOrient
  simp only [bind_some, s_l1In_eq]
  cases h1 : inR o.Palm 0 5
  · rfl
  cases h2 : inR o.Fingers 0 5
  · rfl
  simp only [bind_some, s_orOpposite_eq h2, cond_true, Bool.true_and]
  cases o.Palm != o.Fingers <;> rfl
def gPlace (p : Place) : Bool := inR p.Region 0 9 && inR p.Side (-1) 1 && !(p.Contact && p.Region == 0)
theorem i_IsPlace_eq (p : Place) : X.i_IsPlace p = some (gPlace p) := by
  unfold X.i_IsPlace gPlace
  simp only [bind_some, i_within_eq]
  cases h1 : inR p.Region 0 9
  · rfl
  cases h2 : inR p.Side (-1) 1
  · rfl
  cases p.Contact <;> rfl
theorem s_plGood_eq (p : Place) : X.s_plGood p = some (gPlace p) := by
  unfold X.s_plGood gPlace
  simp only [bind_some, s_l1In_eq]
  cases h1 : inR p.Region 0 9
  · rfl
  cases h2 : inR p.Side (-1) 1
  · rfl
  rw [inR_iff] at h1
  by_cases h : p.Region > 0
  · have : (p.Region == 0) = false := by simp; omega
    simp [h, this]
  · have : p.Region = 0 := by omega
    simp [this]

/-! ### Movements -/
def dirs : Str := [117, 100, 108, 114, 102, 98]
def isDir (b : UInt8) : Bool := b == 117 || (b == 100 || (b == 108 || (b == 114 || (b == 102 || b == 98))))
def gMove (m : Move) : Bool := decide (m.Steps.length ≤ 6) && (m.Steps.all isDir && (inR m.Repeat 1 3 && (!m.Steps.isEmpty || m.Repeat == 1)))
theorem getB_of {s : Str} {i : Nat} {b : UInt8} (h : s[i]? = some b) : getB s (i : Int) = some (b.toNat : Int) := by
  unfold getB getI
  rw [if_pos (by omega)]
  simp [h]
theorem seq_nil (s : Str) : seq s [] = s.isEmpty := by
  rw [seq_eq]
  cases s <;> simp
theorem ne_byte {b : UInt8} {c : Nat} (hc : c < 256) (h : b ≠ UInt8.ofNat c) : ((c : Int) == (b.toNat : Int)) = false := by
  rw [beq_eq_false_iff_ne]
  intro e
  apply h
  apply UInt8.toNat_inj.1
  have h2 : (UInt8.ofNat c).toNat = c := by simp; omega
  omega
theorem isDir_cases {b : UInt8} (h : isDir b = true) : b = 117 ∨ b = 100 ∨ b = 108 ∨ b = 114 ∨ b = 102 ∨ b = 98 := by
  simpa [isDir] using h
theorem mvIndex_eq (k : Nat) (b : UInt8) : ∃ z, X.s_mvIndex (k + 7) (b.toNat : Int) = some z ∧ decide (z < 0) = !(isDir b) := by
  cases hd : isDir b with
  | true =>
    rcases isDir_cases hd with h | h | h | h | h | h <;> subst h
    · exact ⟨0, rfl, rfl⟩
    · exact ⟨1, rfl, rfl⟩
    · exact ⟨2, rfl, rfl⟩
    · exact ⟨3, rfl, rfl⟩
    · exact ⟨4, rfl, rfl⟩
    · exact ⟨5, rfl, rfl⟩
  | false =>
    have w : ∀ z : Int, -100 ≤ z → z ≤ 100 → wr z = z := fun z h1 h2 => wr_of (by omega) (by omega)
    have hn : ∀ c : UInt8, isDir c = true → b ≠ c := fun c hc e => by rw [e, hc] at hd; cases hd
    have g0 := ne_byte (b := b) (c := 117) (by omega) (hn _ rfl)
    have g1 := ne_byte (b := b) (c := 100) (by omega) (hn _ rfl)
    have g2 := ne_byte (b := b) (c := 108) (by omega) (hn _ rfl)
    have g3 := ne_byte (b := b) (c := 114) (by omega) (hn _ rfl)
    have g4 := ne_byte (b := b) (c := 102) (by omega) (hn _ rfl)
    have g5 := ne_byte (b := b) (c := 98) (by omega) (hn _ rfl)
    refine ⟨-1, ?_, rfl⟩
    unfold X.s_mvIndex X.s_mvLetters
    simp only [bind_some, loopM_succ]
    have s0 : (bif decide ((0 : Int) < ((List.length ([117, 100, 108, 114, 102, 98] : Str) : Nat) : Int)) then 1 else 0) = 1 := rfl
    simp only [Int.cast_ofNat_Int] at g0 g1 g2 g3 g4 g5
    simp [w, getB, getI, bind_some, orEl, g0, g1, g2, g3, g4, g5]
/-- A loop over a list, index by index. -/
def foldS {α σ ρ : Type} (g : Nat → α → σ → σ ⊕ ρ) (fin : σ → ρ) : List α → Nat → σ → ρ
  | [], _, s => fin s
  | x :: l, i, s => match g i x s with
    | .inl s' => foldS g fin l (i + 1) s'
    | .inr r => r
theorem forS {α σ τ ρ : Type} {l : List α} (mk : Nat → σ → τ) {body : τ → Option (τ ⊕ ρ)} (g : Nat → α → σ → σ ⊕ ρ) (fin : σ → ρ) (inv : Nat → σ → Prop)
    (h1 : ∀ i x s, l[i]? = some x → inv i s → body (mk i s) = some (match g i x s with | .inl s' => .inl (mk (i + 1) s') | .inr r => .inr r))
    (h2 : ∀ s, inv l.length s → body (mk l.length s) = some (.inr (fin s)))
    (hi : ∀ i x s s', l[i]? = some x → inv i s → g i x s = .inl s' → inv (i + 1) s') :
    ∀ (fu : Nat) (s : σ), inv 0 s → l.length < fu → loopM body fu (mk 0 s) = some (foldS g fin l 0 s) := by
  have key : ∀ (r : List α) (i fu : Nat) (s : σ), l.drop i = r → i ≤ l.length → inv i s → r.length < fu → loopM body fu (mk i s) = some (foldS g fin r i s) := by
    intro r
    induction r with
    | nil =>
      intro i fu s hd hl hv hf
      have hle : l.length ≤ i := List.drop_eq_nil_iff.1 hd
      have : i = l.length := by omega
      subst this
      obtain ⟨n, rfl⟩ : ∃ n, fu = n + 1 := ⟨fu - 1, by simp at hf; omega⟩
      rw [loopM_succ, h2 s hv]
      rfl
    | cons x r ih =>
      intro i fu s hd hl hv hf
      have hlt : i < l.length := by
        rcases Nat.lt_or_ge i l.length with h | h
        · exact h
        · rw [List.drop_eq_nil_of_le h] at hd; cases hd
      have hx : l[i]? = some x := by
        have := congrArg (fun l => l[0]?) hd
        simpa using this
      have hd' : l.drop (i + 1) = r := by rw [← List.drop_drop (i := 1) (j := i), hd]; rfl
      obtain ⟨n, rfl⟩ : ∃ n, fu = n + 1 := ⟨fu - 1, by omega⟩
      rw [loopM_succ, h1 i x s hx hv, bind_some, foldS]
      cases hg : g i x s with
      | inl s' => exact ih (i + 1) n s' hd' (by omega) (hi i x s s' hx hv hg) (by simp at hf; omega)
      | inr q => rfl
  intro fu s hv hf
  exact key l 0 fu s rfl (Nat.zero_le _) hv hf
theorem forT {α σ τ ρ : Type} {body : τ → Option (τ ⊕ ρ)} {fu : Nat} {t0 : τ} (l : List α) (mk : Nat → σ → τ) (g : Nat → α → σ → σ ⊕ ρ) (fin : σ → ρ) (inv : Nat → σ → Prop) (s0 : σ) (ht : mk 0 s0 = t0) (hv : inv 0 s0) (hf : l.length < fu)
    (h1 : ∀ i x s, l[i]? = some x → inv i s → body (mk i s) = some (match g i x s with | .inl s' => .inl (mk (i + 1) s') | .inr r => .inr r))
    (h2 : ∀ s, inv l.length s → body (mk l.length s) = some (.inr (fin s)))
    (hi : ∀ i x s s', l[i]? = some x → inv i s → g i x s = .inl s' → inv (i + 1) s') : loopM body fu t0 = some (foldS g fin l 0 s0) := by
  subst ht
  exact forS mk g fin inv h1 h2 hi fu s0 hv hf
/-- A test of each element. -/
theorem foldS_all {α ρ : Type} (p : α → Bool) (a b : ρ) : ∀ (l : List α) (i : Nat), foldS (fun _ x (_ : Unit) => if p x then .inl () else .inr b) (fun _ => a) l i () = if l.all p then a else b
  | [], i => rfl
  | x :: l, i => by
    rw [foldS]
    cases h : p x
    · simp [h]
    · simp [h, foldS_all p a b l (i + 1)]
theorem mvSteps_eq (k : Nat) (s : Str) (hl : s.length ≤ 2000000) (hk : 2000010 ≤ k) : X.s_mvSteps k s = some (s.all isDir) := by
  obtain ⟨q, rfl⟩ : ∃ q, k = q + 7 := ⟨k - 7, by omega⟩
  unfold X.s_mvSteps
  rw [forT (t0 := 0) s (fun i (_ : Unit) => (i : Int)) (fun _ x (_ : Unit) => if isDir x then Sum.inl () else Sum.inr (Sum.inl false)) (fun _ => Sum.inr ()) (fun _ _ => True) () rfl trivial (by omega) ?_ ?_ ?_, foldS_all]
  · cases s.all isDir <;> rfl
  · intro i x _ hx _
    have hlt : i < s.length := (List.getElem?_eq_some_iff.1 hx).1
    have hd : decide ((i : Int) < (s.length : Int)) = true := by simpa using hlt
    obtain ⟨z, hz, hz2⟩ := mvIndex_eq q x
    simp only [hd, cond_true, getB_of hx, bind_some, hz, hz2]
    cases isDir x
    · rfl
    · simp [wr_of (z := (i : Int) + 1) (by omega) (by omega)]
  · simp
  · intros; trivial
theorem s_mvGood_eq (k : Nat) (m : Move) (hl : m.Steps.length ≤ 2000000) (hk : 2000010 ≤ k) : X.s_mvGood k m = some (gMove m) := by
  unfold X.s_mvGood gMove
  simp only [mvSteps_eq k m.Steps hl hk, bind_some, s_l1In_eq, seq_nil]
  have hd : decide ((m.Steps.length : Int) ≤ 6) = decide (m.Steps.length ≤ 6) := by
    rw [Bool.eq_iff_iff]; simp; omega
  rw [hd]
  cases decide (m.Steps.length ≤ 6)
  · rfl
  cases m.Steps.all isDir
  · rfl
  cases inR m.Repeat 1 3
  · rfl
  cases m.Steps.isEmpty <;> rfl
end Go.Proofs.XC
namespace Go.Proofs.XC
open Go Go.RowKit
/-- A range over 0 .. length. -/
theorem ranN {α σ ρ : Type} {body : Int → σ → Option (σ ⊕ ρ)} {fin : σ → Option ρ} {z : Int} {s0 : σ} (l : List α) (g : Nat → α → σ → σ ⊕ ρ) (f : σ → ρ) (hz : z = (l.length : Int)) (hl : l.length ≤ 9223372036854775807)
    (h1 : ∀ (i : Nat) x s, l[i]? = some x → body (i : Int) s = some (g i x s)) (h2 : ∀ s, fin s = some (f s)) : rangeN body fin z s0 = some (foldS g f l 0 s0) := by
  subst hz
  unfold rangeN
  rw [if_pos (by omega)]
  have key : ∀ (r : List α) (i : Nat) (s : σ), l.drop i = r → i ≤ l.length → rangeM (fun j _ s => body j s) fin (List.range' i r.length) i s = some (foldS g f r i s) := by
    intro r
    induction r with
    | nil => intro i s _ _; simp [rangeM_nil, h2, foldS]
    | cons x r ih =>
      intro i s hd hi
      have hlt : i < l.length := by
        rcases Nat.lt_or_ge i l.length with h | h
        · exact h
        · rw [List.drop_eq_nil_of_le h] at hd; cases hd
      have hx : l[i]? = some x := by
        have := congrArg (fun l => l[0]?) hd
        simpa using this
      have hd' : l.drop (i + 1) = r := by rw [← List.drop_drop (i := 1) (j := i), hd]; rfl
      rw [List.length_cons, List.range'_succ, rangeM_cons, h1 i x s hx, bind_some, foldS]
      cases hg : g i x s with
      | inl s' => exact ih (i + 1) s' hd' (by omega)
      | inr q => rfl
  have := key l 0 s0 rfl (Nat.zero_le _)
  rw [← List.range_eq_range'] at this
  simpa using this
theorem ranM {α σ ρ : Type} {body : Int → α → σ → Option (σ ⊕ ρ)} {fin : σ → Option ρ} (g : Nat → α → σ → σ ⊕ ρ) (f : σ → ρ) (inv : Nat → σ → Prop) : ∀ (l : List α) (j : Nat) (s : σ), inv j s →
    (∀ (i : Nat) x s, l[i]? = some x → inv (j + i) s → body ((j + i : Nat) : Int) x s = some (g (j + i) x s)) → (∀ s, inv (j + l.length) s → fin s = some (f s)) →
    (∀ i x s s', l[i]? = some x → inv (j + i) s → g (j + i) x s = .inl s' → inv (j + i + 1) s') → rangeM body fin l j s = some (foldS g f l j s)
  | [], j, s, hv, _, h2, _ => by
    rw [rangeM_nil, h2 s (by simpa using hv)]
    rfl
  | x :: l, j, s, hv, h1, h2, hi => by
    have h0 : body (j : Int) x s = some (g j x s) := h1 0 x s rfl hv
    rw [rangeM_cons, h0, bind_some, foldS]
    cases hg : g j x s with
    | inr q => rfl
    | inl s' =>
      exact ranM g f inv l (j + 1) s' (hi 0 x s s' rfl hv hg)
        (fun i y s hy hv => by have := h1 (i + 1) y s hy (by rw [show j + (i + 1) = j + 1 + i by omega]; exact hv); rw [show j + (i + 1) = j + 1 + i by omega] at this; exact this)
        (fun s hv => h2 s (by rw [List.length_cons, show j + (l.length + 1) = j + 1 + l.length by omega]; exact hv))
        (fun i y s s' hy hv hg => by have := hi (i + 1) y s s' hy (by rw [show j + (i + 1) = j + 1 + i by omega]; exact hv) (by rw [show j + (i + 1) = j + 1 + i by omega]; exact hg); rw [show j + (i + 1) = j + 1 + i by omega] at this; exact this)
theorem indexByte_dirs (b : UInt8) : decide (Lib.indexByte dirs (((b.toNat : Int)).toNat).toUInt8 < 0) = !(isDir b) := by
  have e : (((b.toNat : Int)).toNat).toUInt8 = b := by
    rw [Int.toNat_natCast]
    exact UInt8.ofNat_toNat
  rw [e]
  cases hd : isDir b with
  | true => rcases isDir_cases hd with h | h | h | h | h | h <;> subst h <;> rfl
  | false =>
    have hn : ∀ c : UInt8, isDir c = true → (c == b) = false := fun c hc => by
      rw [beq_eq_false_iff_ne]
      intro e
      rw [← e, hc] at hd
      cases hd
    simp [dirs, Lib.indexByte, hn 117 rfl, hn 100 rfl, hn 108 rfl, hn 114 rfl, hn 102 rfl, hn 98 rfl]
theorem hasDirs_eq (s : Str) (hl : s.length ≤ 2000000) : X.i_hasOnly s [117, 100, 108, 114, 102, 98] = some (s.all isDir) := by
  unfold X.i_hasOnly
  rw [ranN s (fun _ x (_ : Unit) => if isDir x then Sum.inl () else Sum.inr (Sum.inl false)) (fun _ => Sum.inr ()) rfl (by omega) ?_ (fun _ => rfl), foldS_all]
  · cases s.all isDir <;> rfl
  · intro i x _ hx
    rw [getB_of hx, bind_some]
    unfold X.strings_IndexByte
    rw [bind_some]
    have := indexByte_dirs x
    unfold dirs at this
    rw [this]
    cases isDir x <;> rfl
theorem i_IsMove_eq (m : Move) (hl : m.Steps.length ≤ 2000000) : X.i_IsMove m = some (gMove m) := by
  unfold X.i_IsMove gMove
  simp only [hasDirs_eq m.Steps hl, bind_some, i_within_eq, seq_nil]
  have hd : decide ((m.Steps.length : Int) ≤ 6) = decide (m.Steps.length ≤ 6) := by
    rw [Bool.eq_iff_iff]; simp; omega
  rw [hd]
  cases decide (m.Steps.length ≤ 6)
  · rfl
  cases m.Steps.all isDir
  · rfl
  cases inR m.Repeat 1 3
  · rfl
  cases m.Steps.isEmpty <;> rfl
def gHand (h : Hand) : Bool := gShape h.Shape && (gOrient h.Orient && (gPlace h.Place && gMove h.Move))
def small (h : Hand) : Prop := h.Move.Steps.length ≤ 2000000
theorem i_IsHand_eq (h : Hand) (hl : small h) : X.i_IsHand h = some (gHand h) := by
  unfold X.i_IsHand gHand
  simp only [i_IsShape_eq, i_IsOrient_eq, i_IsPlace_eq, i_IsMove_eq _ hl, bind_some]
  cases gShape h.Shape <;> cases gOrient h.Orient <;> cases gPlace h.Place <;> rfl
theorem s_siHand_eq (k : Nat) (h : Hand) (hl : small h) (hk : 2000010 ≤ k) : X.s_siHand k h = some (gHand h) := by
  obtain ⟨q, rfl⟩ : ∃ q, k = q + 4 := ⟨k - 4, by omega⟩
  unfold X.s_siHand gHand
  simp only [s_shGood_eq, s_orGood_eq, s_plGood_eq, s_mvGood_eq _ _ hl hk, bind_some]
  cases gShape h.Shape <;> cases gOrient h.Orient <;> cases gPlace h.Place <;> rfl

/-! ### All steps -/
def allSteps (m : Move) : Str := Lib.repeatL m.Steps m.Repeat.toNat
theorem gMove_iff {m : Move} : gMove m = true ↔ m.Steps.length ≤ 6 ∧ m.Steps.all isDir = true ∧ (1 ≤ m.Repeat ∧ m.Repeat ≤ 3) ∧ (m.Steps ≠ [] ∨ m.Repeat = 1) := by
  unfold gMove
  simp [inR]
theorem repeat_eq {s : Str} {n : Int} (h1 : 0 ≤ n) (h2 : n ≤ 2000000) (hs : s.length ≤ 2000000) : X.strings_Repeat s n = some (Lib.repeatL s n.toNat) := by
  unfold X.strings_Repeat
  have hb : s.length * n.toNat ≤ 2000000 * 2000000 := Nat.mul_le_mul hs (by omega)
  rw [if_pos ⟨h1, by omega, by omega⟩]
theorem i_Move_all_eq {m : Move} (h : gMove m = true) : X.i_Move_all m = some (allSteps m) := by
  rw [gMove_iff] at h
  unfold X.i_Move_all
  rw [repeat_eq (by omega) (by omega) (by omega)]
  first | done | rfl
theorem repeatL_comm (s : Str) : ∀ n, Lib.repeatL s n ++ s = s ++ Lib.repeatL s n
  | 0 => by simp [Lib.repeatL]
  | n + 1 => by rw [Lib.repeatL, List.append_assoc, repeatL_comm s n]
theorem s_mvTimes_eq {s : Str} (hs : s.length ≤ 2000000) : ∀ (n k : Nat), n ≤ 2000000 → n < k → X.s_mvTimes k s (n : Int) = some (Lib.repeatL s n) := by
  intro n k hn hk
  unfold X.s_mvTimes
  have key : ∀ (j i k : Nat), i + j = n → j < k → loopM (fun (⟨n1, t2⟩ : Int × Str) => (bif decide (n1 > 0) then (Option.bind (catS t2 s) fun y4_2 => some (.inl ((wr (n1 - 1)), y4_2))) else some (.inr t2))) k ((j : Int), Lib.repeatL s i) = some (Lib.repeatL s n) := by
    intro j
    induction j with
    | zero =>
      intro i k hi hk
      obtain ⟨q, rfl⟩ : ∃ q, k = q + 1 := ⟨k - 1, by omega⟩
      rw [loopM_succ]
      have : i = n := by omega
      subst this
      simp [bind_some]
    | succ j ih =>
      intro i k hi hk
      obtain ⟨q, rfl⟩ : ∃ q, k = q + 1 := ⟨k - 1, by omega⟩
      rw [loopM_succ]
      have hpos : decide (((j + 1 : Nat) : Int) > 0) = true := by simp
      have hc : catS (Lib.repeatL s i) s = some (Lib.repeatL s (i + 1)) := by
        unfold catS
        rw [if_pos, repeatL_comm]
        · rfl
        · rw [Lib.repeatL_length]
          have : i * s.length ≤ 2000000 * 2000000 := Nat.mul_le_mul (by omega) hs
          omega
      simp only [hpos, cond_true, hc, bind_some]
      rw [wr_of (by omega) (by omega), show ((j + 1 : Nat) : Int) - 1 = (j : Int) by omega]
      exact ih (i + 1) q (by omega) (by omega)
  have := key n 0 k (by omega) hk
  rw [show (Lib.repeatL s 0) = [] from rfl] at this
  rw [this]
  rfl
theorem s_mvAll_eq {m : Move} {k : Nat} (h : gMove m = true) (hk : 4 ≤ k) : X.s_mvAll k m = some (allSteps m) := by
  rw [gMove_iff] at h
  unfold X.s_mvAll allSteps
  have := s_mvTimes_eq (s := m.Steps) (by omega) m.Repeat.toNat k (by omega) (by omega)
  rw [show ((m.Repeat.toNat : Nat) : Int) = m.Repeat by omega] at this
  rw [this]
  rfl
end Go.Proofs.XC
namespace Go.Proofs.XC
open Go Go.RowKit
def dig (z : Int) : UInt8 := UInt8.ofNat (48 + z.toNat)
theorem itoa_eq {z : Int} (h0 : 0 ≤ z) (h1 : z < 10) : X.strconv_Itoa z = some [dig z] := by
  unfold X.strconv_Itoa
  rw [if_pos ⟨h0, by omega⟩, Lib.decDigits, dif_pos (by omega)]
  rfl
theorem l1Num_eq {z : Int} (k : Nat) (h0 : 0 ≤ z) (h1 : z < 10) : X.s_l1Num (k + 1) z = some [dig z] := by
  rw [X.s_l1Num]
  have : decide (z < 10) = true := by simpa using h1
  rw [this, cond_true]
  have hz : z = 0 ∨ z = 1 ∨ z = 2 ∨ z = 3 ∨ z = 4 ∨ z = 5 ∨ z = 6 ∨ z = 7 ∨ z = 8 ∨ z = 9 := by omega
  rcases hz with h | h | h | h | h | h | h | h | h | h <;> subst h <;> rfl
theorem catS_of {a b : Str} (h : a.length + b.length ≤ 9223372036854775807) : catS a b = some (a ++ b) := by
  unfold catS
  rw [if_pos h]
/-- A shape's text. -/
def tShape (s : Shape) : Str := [dig s.Thumb, dig s.Index, dig s.Middle, dig s.Ring, dig s.Little] ++ (if s.Spread then [115] else [])
theorem gShape_iff {s : Shape} : gShape s = true ↔ (0 ≤ s.Thumb ∧ s.Thumb ≤ 2) ∧ (0 ≤ s.Index ∧ s.Index ≤ 2) ∧ (0 ≤ s.Middle ∧ s.Middle ≤ 2) ∧ (0 ≤ s.Ring ∧ s.Ring ≤ 2) ∧ (0 ≤ s.Little ∧ s.Little ≤ 2) ∧ (s.Spread = false ∨ wide s = true) := by
  unfold gShape
  simp only [inR, Bool.and_eq_true, decide_eq_true_eq, Bool.or_eq_true, Bool.not_eq_true']
  constructor
  · rintro ⟨⟨a, b, c, d, e⟩, f⟩; exact ⟨a, b, c, d, e, f⟩
  · rintro ⟨a, b, c, d, e, f⟩; exact ⟨⟨a, b, c, d, e⟩, f⟩
theorem i_Shape_text_eq {s : Shape} (h : gShape s = true) : X.i_Shape_text s = some (tShape s) := by
  rw [gShape_iff] at h
  unfold X.i_Shape_text X.i_Shape_bends tShape
  simp only [itoa_eq (z := s.Thumb) (by omega) (by omega), bind_some, rangeM_cons, rangeM_nil, itoa_eq (z := s.Index) (by omega) (by omega), itoa_eq (z := s.Middle) (by omega) (by omega), itoa_eq (z := s.Ring) (by omega) (by omega), itoa_eq (z := s.Little) (by omega) (by omega)]
  cases s.Spread <;> rfl
theorem s_shText_eq {s : Shape} (k : Nat) (h : gShape s = true) : X.s_shText (k + 1) s = some (tShape s) := by
  rw [gShape_iff] at h
  unfold X.s_shText X.s_shFingers tShape
  simp only [l1Num_eq (z := s.Thumb) k (by omega) (by omega), bind_some, rangeM_cons, rangeM_nil, l1Num_eq (z := s.Index) k (by omega) (by omega), l1Num_eq (z := s.Middle) k (by omega) (by omega), l1Num_eq (z := s.Ring) k (by omega) (by omega), l1Num_eq (z := s.Little) k (by omega) (by omega)]
  cases s.Spread <;> rfl
def plainL : List Shape := [⟨0, 0, 0, 0, 0, false⟩, ⟨0, 0, 0, 0, 0, true⟩, ⟨2, 2, 2, 2, 2, false⟩, ⟨1, 0, 0, 0, 0, false⟩, ⟨1, 0, 2, 2, 2, false⟩, ⟨0, 0, 2, 2, 2, false⟩]
theorem parse_eq (k : Nat) (s : Shape) (hp : s ∈ plainL) : X.i_ParseShape (k + 6) (tShape s) = some (s, true) := by
  have key : gShape s = true ∧ X.i_ParseShape (k + 6) (tShape s) = Option.bind (X.i_Shape_text s) (fun v => bif (!seq v (tShape s)) then some (zShape, false) else some (s, true)) := by
    simp only [plainL, List.mem_cons, List.not_mem_nil, or_false] at hp
    rcases hp with hp | hp | hp | hp | hp | hp <;> subst hp <;> exact ⟨rfl, rfl⟩
  obtain ⟨h1, h2⟩ := key
  rw [h2, i_Shape_text_eq h1, bind_some, seq_eq]
  simp
theorem i_PlainShapes_eq (k : Nat) : X.i_PlainShapes (k + 6) = some plainL := by
  have h0 := parse_eq k ⟨0, 0, 0, 0, 0, false⟩ (by simp [plainL])
  have h1 := parse_eq k ⟨0, 0, 0, 0, 0, true⟩ (by simp [plainL])
  have h2 := parse_eq k ⟨2, 2, 2, 2, 2, false⟩ (by simp [plainL])
  have h3 := parse_eq k ⟨1, 0, 0, 0, 0, false⟩ (by simp [plainL])
  have h4 := parse_eq k ⟨1, 0, 2, 2, 2, false⟩ (by simp [plainL])
  have h5 := parse_eq k ⟨0, 0, 2, 2, 2, false⟩ (by simp [plainL])
  rw [show tShape ⟨0, 0, 0, 0, 0, false⟩ = [48, 48, 48, 48, 48] from rfl] at h0
  rw [show tShape ⟨0, 0, 0, 0, 0, true⟩ = [48, 48, 48, 48, 48, 115] from rfl] at h1
  rw [show tShape ⟨2, 2, 2, 2, 2, false⟩ = [50, 50, 50, 50, 50] from rfl] at h2
  rw [show tShape ⟨1, 0, 0, 0, 0, false⟩ = [49, 48, 48, 48, 48] from rfl] at h3
  rw [show tShape ⟨1, 0, 2, 2, 2, false⟩ = [49, 48, 50, 50, 50] from rfl] at h4
  rw [show tShape ⟨0, 0, 2, 2, 2, false⟩ = [48, 48, 50, 50, 50] from rfl] at h5
  unfold X.i_PlainShapes
  simp only [rangeM_cons, rangeM_nil, h0, h1, h2, h3, h4, h5, bind_some]
  rfl
theorem s_siPlain_eq (k : Nat) : X.s_siPlain (k + 6) = some plainL := by rfl
theorem qShape_iff (a b : Shape) : qShape a b = decide (a = b) := by
  unfold qShape
  cases a
  cases b
  rw [Bool.eq_iff_iff]
  simp
theorem qOrient_iff (a b : Orient) : qOrient a b = decide (a = b) := by
  unfold qOrient
  cases a
  cases b
  rw [Bool.eq_iff_iff]
  simp
theorem s_find_eq (o : Shape) : ∀ (l : List Shape) (j : Nat), rangeM (fun (j4 : Int) (x5 : Shape) (_ : Unit) => (bif (qShape x5 o) then some (.inr (Sum.inl (0 : Int))) else some (.inl ()))) (fun _ => some (Sum.inr ())) l j () = some (if o ∈ l then Sum.inl 0 else Sum.inr ())
  | [], j => by simp [rangeM_nil]
  | x :: l, j => by
    rw [rangeM_cons, qShape_iff]
    by_cases h : x = o
    · subst h; simp [bind_some]
    · have h' : ¬ o = x := fun e => h e.symm
      simp only [h, decide_false, cond_false, bind_some, List.mem_cons, h', false_or]
      exact s_find_eq o l (j + 1)
theorem i_contains_eq (o : Shape) (l : List Shape) : X.slices_Contains_i_Shape_i_Shape l o = some (decide (o ∈ l)) := by
  unfold X.slices_Contains_i_Shape_i_Shape X.slices_Index_i_Shape_i_Shape
  have h := anyF_eq (fun x => qShape o x) (fun x => some (qShape o x)) l (fun x _ => rfl)
  simp only [bind_some] at h
  refine Eq.trans h ?_
  congr 1
  rw [Bool.eq_iff_iff]
  simp [qShape_iff]
/-- A mirrored orientation. -/
def mirD (d : Int) : Int := if d = 2 then 3 else if d = 3 then 2 else d
def mirO (o : Orient) : Orient := ⟨mirD o.Palm, mirD o.Fingers⟩
theorem i_mirD_eq (d : Int) : X.i_Orient_mirrored_1 d = some (mirD d) := by
  unfold X.i_Orient_mirrored_1 mirD
  by_cases h : d = 2
  · subst h; rfl
  · by_cases h3 : d = 3
    · subst h3; rfl
    · rw [beq_eq_false_iff_ne.2 h, beq_eq_false_iff_ne.2 h3]; simp [h, h3]
theorem i_mirO_eq (o : Orient) : X.i_Orient_mirrored o = some (mirO o) := by
  unfold X.i_Orient_mirrored
  simp only [i_mirD_eq, bind_some]
  rfl
theorem s_mirD_eq (d : Int) : X.s_orSwap d = some (mirD d) := by
  unfold X.s_orSwap mirD
  by_cases h : d = 2
  · subst h; rfl
  · by_cases h3 : d = 3
    · subst h3; rfl
    · rw [beq_eq_false_iff_ne.2 h, beq_eq_false_iff_ne.2 h3]; simp [h, h3]
theorem s_mirO_eq (o : Orient) : X.s_orMirror o = some (mirO o) := by
  unfold X.s_orMirror
  simp only [s_mirD_eq, bind_some]
  rfl
theorem mirD_mirD (d : Int) : mirD (mirD d) = d := by
  unfold mirD
  repeat' split
  all_goals omega
theorem mirO_mirO (o : Orient) : mirO (mirO o) = o := by
  unfold mirO
  simp [mirD_mirD]
/-- A mirrored movement. -/
def mirM (m : Move) : Move := ⟨m.Steps.map swapLR, m.Repeat⟩
theorem isDir_swap (b : UInt8) : isDir (swapLR b) = isDir b := by
  unfold swapLR
  split
  · subst_vars; rfl
  · split
    · subst_vars; rfl
    · rfl
theorem gMove_mir {m : Move} (h : gMove m = true) : gMove (mirM m) = true := by
  rw [gMove_iff] at h ⊢
  obtain ⟨h1, h2, h3, h4⟩ := h
  refine ⟨by simpa [mirM] using h1, ?_, h3, ?_⟩
  · rw [List.all_eq_true] at h2 ⊢
    intro b hb
    obtain ⟨c, hc, rfl⟩ := List.mem_map.1 hb
    rw [isDir_swap]
    exact h2 c hc
  · rcases h4 with h4 | h4
    · left
      simpa [mirM] using h4
    · exact .inr h4
theorem s_mvMirror_eq {m : Move} {k : Nat} (hl : m.Steps.length ≤ 2000000) (hk : m.Steps.length < k) : X.s_mvMirror k m = some (mirM m) := by
  unfold X.s_mvMirror
  rw [forT (t0 := (([] : Str), (0 : Int))) m.Steps (fun i (t : Str) => (t, (i : Int))) (fun _ x t => Sum.inl (t ++ [swapLR x])) (fun t => t) (fun i t => t.length = i) [] rfl rfl hk ?_ ?_ ?_]
  · have key : ∀ (l : Str) (i : Nat) (t : Str), foldS (fun _ (x : UInt8) (t : Str) => (Sum.inl (t ++ [swapLR x]) : Str ⊕ Str)) (fun t => t) l i t = t ++ l.map swapLR := by
      intro l
      induction l with
      | nil => intro i t; simp [foldS]
      | cons x l ih => intro i t; rw [foldS]; simp [ih]
    rw [key]
    rfl
  · intro i x t hx ht
    have hlt : i < m.Steps.length := (List.getElem?_eq_some_iff.1 hx).1
    have hd : decide ((i : Int) < (m.Steps.length : Int)) = true := by simpa using hlt
    have hw : wr ((i : Int) + 1) = ((i + 1 : Nat) : Int) := by rw [wr_of (by omega) (by omega)]; rfl
    have hcut : cutS m.Steps (i : Int) ((i + 1 : Nat) : Int) = some [x] := by
      unfold cutS
      rw [if_pos ⟨by omega, by omega, by omega⟩]
      have h1 : (((i + 1 : Nat) : Int) - (i : Int)).toNat = 1 := by omega
      rw [h1, Int.toNat_natCast, List.take_one]
      have h2 : (m.Steps.drop i).head? = some x := by rw [List.head?_drop]; exact hx
      rw [h2]
      rfl
    simp only [hd, cond_true, getB_of hx, bind_some, hw, hcut]
    unfold swapLR
    have hc : ∀ c : Str, c.length ≤ 1 → catS t c = some (t ++ c) := fun c hc => catS_of (by omega)
    by_cases h1 : x = 108
    · subst h1
      simp [hc, bind_some]
    · have e1 : ((x.toNat : Int) == 108) = false := by
        have := ne_byte (b := x) (c := 108) (by omega) h1
        rw [beq_eq_false_iff_ne] at this ⊢
        omega
      by_cases h2 : x = 114
      · subst h2
        simp [hc, bind_some]
      · have e2 : ((x.toNat : Int) == 114) = false := by
          have := ne_byte (b := x) (c := 114) (by omega) h2
          rw [beq_eq_false_iff_ne] at this ⊢
          omega
        simp [e1, e2, hc, bind_some, h1, h2]
  · intro t ht
    simp
  · intro i x t t' _ ht hg
    injection hg with hg
    subst hg
    simp [ht]
end Go.Proofs.XC
namespace Go.Proofs.XC
open Go Go.RowKit
def gKeep (a b : Hand) : Bool := if b.Move.Steps = [] then decide (b.Shape = a.Shape ∨ b.Shape ∈ plainL) else
  decide (a.Move.Steps ≠ [] ∧ a.Shape = b.Shape ∧ (b.Orient = a.Orient ∨ b.Orient = mirO a.Orient) ∧ (allSteps b.Move = allSteps a.Move ∨ allSteps b.Move = allSteps (mirM a.Move)))
theorem moves_eq (h : Hand) : X.i_Hand_moves h = some (!h.Move.Steps.isEmpty) := by
  unfold X.i_Hand_moves
  rw [seq_nil]
theorem isEmpty_iff' (s : Str) : s.isEmpty = decide (s = []) := by cases s <;> simp
theorem i_mirM_eq {m : Move} (h : gMove m = true) : X.i_Move_mirrored m = some (mirM m) := by
  unfold X.i_Move_mirrored
  rw [if_pos (by have := (gMove_iff.1 h).1; omega)]
  rfl
theorem i_keepRules_eq (k : Nat) {a b : Hand} (ha : gMove a.Move = true) (hb : gMove b.Move = true) : X.i_keepRules (k + 6) a b = some (gKeep a b) := by
  unfold X.i_keepRules gKeep
  simp only [moves_eq, i_mirO_eq, i_mirM_eq ha, i_Move_all_eq ha, i_Move_all_eq hb, i_Move_all_eq (gMove_mir ha), bind_some, i_PlainShapes_eq, i_contains_eq, qShape_iff, qOrient_iff, seq_eq, isEmpty_iff']
  by_cases h1 : b.Move.Steps = []
  · by_cases h2 : b.Shape = a.Shape
    · simp [h1, h2]
    · simp [h1, h2]
  · by_cases h2 : b.Orient = a.Orient <;> by_cases h3 : allSteps b.Move = allSteps a.Move <;> by_cases h4 : a.Move.Steps = [] <;> by_cases h5 : a.Shape = b.Shape <;> by_cases h6 : b.Orient = mirO a.Orient <;> simp [h1, h2, h3, h4, h5, h6]
def vBroken (a b : Hand) : Int := if b.Move.Steps = [] then (if a.Shape = b.Shape ∨ b.Shape ∈ plainL then 0 else 4) else
  if a.Move.Steps = [] then 3 else if a.Shape ≠ b.Shape then 1 else if a.Orient ≠ b.Orient ∧ a.Orient ≠ mirO b.Orient then 2 else
  if allSteps a.Move ≠ allSteps b.Move ∧ allSteps (mirM a.Move) ≠ allSteps b.Move then 3 else 0
theorem s_siBroken_eq {k : Nat} {a b : Hand} (ha : gMove a.Move = true) (hb : gMove b.Move = true) (hk : 10 ≤ k) : X.s_siBroken k a b = some (vBroken a b) := by
  obtain ⟨q, rfl⟩ : ∃ q, k = q + 6 := ⟨k - 6, by omega⟩
  have hl : a.Move.Steps.length ≤ 6 := (gMove_iff.1 ha).1
  unfold X.s_siBroken vBroken
  simp only [s_mirO_eq, s_mvAll_eq ha (show 4 ≤ q + 6 by omega), s_mvAll_eq hb (show 4 ≤ q + 6 by omega), s_mvMirror_eq (m := a.Move) (k := q + 6) (by omega) (by omega), s_mvAll_eq (gMove_mir ha) (show 4 ≤ q + 6 by omega), bind_some, s_siPlain_eq, s_find_eq, qShape_iff, qOrient_iff, seq_eq]
  by_cases h1 : b.Move.Steps = []
  · by_cases h2 : a.Shape = b.Shape
    · simp [h1, h2]
    · have hf := s_find_eq b.Shape plainL 0
      simp only [qShape_iff] at hf
      by_cases h3 : b.Shape ∈ plainL <;> simp [h1, h2, h3, orEl, hf]
  · by_cases h2 : a.Move.Steps = [] <;> by_cases h3 : a.Shape = b.Shape <;> by_cases h4 : a.Orient = b.Orient <;> by_cases h5 : a.Orient = mirO b.Orient <;> by_cases h6 : allSteps a.Move = allSteps b.Move <;> by_cases h7 : allSteps (mirM a.Move) = allSteps b.Move <;> simp [h1, h2, h3, h4, h5, h6, h7]
theorem mirO_eq_iff (a b : Orient) : a = mirO b ↔ b = mirO a := by
  constructor
  · intro h; rw [h, mirO_mirO]
  · intro h; rw [h, mirO_mirO]
theorem vBroken_iff (a b : Hand) : (vBroken a b == 0) = gKeep a b := by
  unfold vBroken gKeep
  have e1 : (b.Shape = a.Shape) ↔ (a.Shape = b.Shape) := eq_comm
  have e2 : (b.Orient = a.Orient) ↔ (a.Orient = b.Orient) := eq_comm
  have e3 : (b.Orient = mirO a.Orient) ↔ (a.Orient = mirO b.Orient) := (mirO_eq_iff _ _)
  have e4 : (allSteps b.Move = allSteps a.Move) ↔ (allSteps a.Move = allSteps b.Move) := eq_comm
  have e5 : (allSteps b.Move = allSteps (mirM a.Move)) ↔ (allSteps (mirM a.Move) = allSteps b.Move) := eq_comm
  simp only [e1, e2, e3, e4, e5]
  by_cases h1 : b.Move.Steps = []
  · by_cases h2 : a.Shape = b.Shape ∨ b.Shape ∈ plainL <;> simp [h1, h2]
  · by_cases h2 : a.Move.Steps = [] <;> by_cases h3 : a.Shape = b.Shape <;> by_cases h4 : a.Orient = b.Orient <;> by_cases h5 : a.Orient = mirO b.Orient <;> by_cases h6 : allSteps a.Move = allSteps b.Move <;> by_cases h7 : allSteps (mirM a.Move) = allSteps b.Move <;> simp [h1, h2, h3, h4, h5, h6, h7]
theorem qMove_iff (a b : Move) : qMove a b = decide (a = b) := by
  unfold qMove
  cases a
  cases b
  rw [seq_eq, Bool.eq_iff_iff]
  simp
theorem qPlace_iff (a b : Place) : qPlace a b = decide (a = b) := by
  unfold qPlace
  cases a
  cases b
  rw [Bool.eq_iff_iff]
  simp
theorem qHand_iff (a b : Hand) : qHand a b = decide (a = b) := by
  unfold qHand
  rw [qShape_iff, qOrient_iff, qPlace_iff, qMove_iff]
  cases a
  cases b
  rw [Bool.eq_iff_iff]
  simp
theorem qSign_iff (a b : Sign) : qSign a b = decide (a = b) := by
  unfold qSign
  rw [qHand_iff, qHand_iff]
  cases a
  cases b
  rw [Bool.eq_iff_iff]
  simp
def gSign (s : Sign) : Bool := gHand s.Main && (if s.Two then gHand s.Other && gKeep s.Main s.Other else decide (s.Other = zHand))
def smallS (s : Sign) : Prop := small s.Main ∧ small s.Other
theorem gHand_iff {h : Hand} : gHand h = true ↔ gShape h.Shape = true ∧ gOrient h.Orient = true ∧ gPlace h.Place = true ∧ gMove h.Move = true := by
  unfold gHand
  simp
theorem i_IsSign_eq {k : Nat} {s : Sign} (hs : smallS s) (hk : 10 ≤ k) : X.i_IsSign k s = some (gSign s) := by
  obtain ⟨q, rfl⟩ : ∃ q, k = q + 6 := ⟨k - 6, by omega⟩
  unfold X.i_IsSign gSign
  simp only [i_IsHand_eq _ hs.1, i_IsHand_eq _ hs.2, bind_some, qHand_iff]
  cases h1 : gHand s.Main
  · simp
  cases h2 : s.Two
  · simp
  cases h3 : gHand s.Other
  · simp
  rw [i_keepRules_eq q (gHand_iff.1 h1).2.2.2 (gHand_iff.1 h3).2.2.2]
  simp [bind_some]
theorem s_siGood_eq {k : Nat} {s : Sign} (hs : smallS s) (hk : 2000010 ≤ k) : X.s_siGood k s = some (gSign s) := by
  unfold X.s_siGood gSign
  simp only [s_siHand_eq k _ hs.1 hk, s_siHand_eq k _ hs.2 hk, bind_some, qHand_iff]
  cases h1 : gHand s.Main
  · simp
  cases h2 : s.Two
  · simp
  cases h3 : gHand s.Other
  · simp
  rw [s_siBroken_eq (gHand_iff.1 h1).2.2.2 (gHand_iff.1 h3).2.2.2 (by omega), bind_some, vBroken_iff]
  simp
end Go.Proofs.XC
namespace Go.Proofs.XC
open Go Go.RowKit
def dl (d : Int) : UInt8 := if d = 0 then 117 else if d = 1 then 100 else if d = 2 then 108 else if d = 3 then 114 else if d = 4 then 102 else 98
def tOrient (o : Orient) : Str := [dl o.Palm, dl o.Fingers]
theorem gOrient_iff {o : Orient} : gOrient o = true ↔ inR o.Palm 0 5 = true ∧ inR o.Fingers 0 5 = true ∧ o.Palm ≠ o.Fingers ∧ o.Palm ≠ opp o.Fingers := by
  unfold gOrient
  simp only [Bool.and_eq_true, bne_iff_ne]
  constructor
  · rintro ⟨⟨a, b⟩, c, d⟩; exact ⟨a, b, c, d⟩
  · rintro ⟨a, b, c, d⟩; exact ⟨⟨a, b⟩, c, d⟩
theorem cut_dir {d : Int} (h : inR d 0 5 = true) : cutS ([117, 100, 108, 114, 102, 98] : Str) d (wr (d + 1)) = some [dl d] := by
  rcases inR_cases h with h | h | h | h | h | h <;> subst h <;> rfl
theorem i_Orient_text_eq {o : Orient} (h : gOrient o = true) : X.i_Orient_text o = some (tOrient o) := by
  rw [gOrient_iff] at h
  unfold X.i_Orient_text
  simp only [cut_dir h.1, cut_dir h.2.1, bind_some]
  rfl
theorem s_orText_eq {o : Orient} (h : gOrient o = true) : X.s_orText o = some (tOrient o) := i_Orient_text_eq h
def names : List Str := [[115, 112, 97, 99, 101], [104, 101, 97, 100], [101, 121, 101], [99, 104, 101, 101, 107], [109, 111, 117, 116, 104], [99, 104, 105, 110], [110, 101, 99, 107], [99, 104, 101, 115, 116], [119, 97, 105, 115, 116], [104, 105, 112]]
def tPlace (p : Place) : Str := (names.getD p.Region.toNat [] ++ (if p.Side = -1 then [60] else if p.Side = 1 then [62] else [])) ++ (if p.Contact then [42] else [])
theorem gPlace_iff {p : Place} : gPlace p = true ↔ (0 ≤ p.Region ∧ p.Region ≤ 9) ∧ (-1 ≤ p.Side ∧ p.Side ≤ 1) ∧ (p.Contact = false ∨ p.Region ≠ 0) := by
  unfold gPlace
  simp [inR, and_assoc]
theorem place_eqs {p : Place} (h : gPlace p = true) : X.i_Place_text p = some (tPlace p) ∧ X.s_plText p = some (tPlace p) := by
  rw [gPlace_iff] at h
  obtain ⟨⟨h1, h2⟩, ⟨h3, h4⟩, _⟩ := h
  obtain ⟨r, sd, c⟩ := p
  simp only at h1 h2 h3 h4
  have hr : r = 0 ∨ r = 1 ∨ r = 2 ∨ r = 3 ∨ r = 4 ∨ r = 5 ∨ r = 6 ∨ r = 7 ∨ r = 8 ∨ r = 9 := by omega
  have hs : sd = -1 ∨ sd = 0 ∨ sd = 1 := by omega
  rcases hr with h | h | h | h | h | h | h | h | h | h <;> rcases hs with g | g | g <;> cases c <;> subst h <;> subst g <;> exact ⟨rfl, rfl⟩
def tMove (m : Move) : Str := if m.Steps = [] then [45] else if m.Repeat = 1 then m.Steps else m.Steps ++ [42] ++ [dig m.Repeat]
theorem i_Move_text_eq {m : Move} (h : gMove m = true) : X.i_Move_text m = some (tMove m) := by
  rw [gMove_iff] at h
  unfold X.i_Move_text tMove
  rw [seq_eq, itoa_eq (by omega) (by omega), catS_of (by simp; omega)]
  simp only [bind_some]
  rw [catS_of (by simp; omega)]
  by_cases h1 : m.Steps = []
  · simp [h1]
  · by_cases h2 : m.Repeat = 1
    · simp [h1, h2]
    · rw [beq_eq_false_iff_ne.2 h2]
      simp [h1, h2, bind_some]
theorem s_mvText_eq {m : Move} (k : Nat) (h : gMove m = true) : X.s_mvText (k + 1) m = some (tMove m) := by
  rw [gMove_iff] at h
  unfold X.s_mvText tMove
  rw [seq_eq, l1Num_eq k (by omega) (by omega), catS_of (by simp; omega)]
  simp only [bind_some]
  rw [catS_of (by simp; omega)]
  by_cases h1 : m.Steps = []
  · simp [h1]
  · by_cases h2 : m.Repeat = 1
    · simp [h1, h2]
    · have : decide (m.Repeat > 1) = true := by simp; omega
      rw [this]
      simp [h1, h2, bind_some]
def tHand (h : Hand) : Str := tShape h.Shape ++ [47] ++ tOrient h.Orient ++ [47] ++ tPlace h.Place ++ [47] ++ tMove h.Move
theorem tShape_len (s : Shape) : (tShape s).length ≤ 6 := by
  unfold tShape
  split <;> simp
theorem tPlace_len (p : Place) : (tPlace p).length ≤ 7 := by
  unfold tPlace
  have h : (names.getD p.Region.toNat []).length ≤ 5 := by
    have : ∀ x ∈ names, x.length ≤ 5 := by decide
    rw [List.getD_eq_getElem?_getD]
    cases hx : names[p.Region.toNat]? with
    | none => simp
    | some x => exact this x (List.mem_of_getElem? hx)
  simp only [List.length_append]
  have h2 : (if p.Side = -1 then ([60] : Str) else if p.Side = 1 then [62] else []).length ≤ 1 := by
    by_cases h : p.Side = -1
    · simp [h]
    · by_cases h' : p.Side = 1 <;> simp [h, h']
  have h3 : (if p.Contact = true then ([42] : Str) else []).length ≤ 1 := by split <;> simp
  omega
theorem tMove_len {m : Move} (h : gMove m = true) : (tMove m).length ≤ 8 := by
  rw [gMove_iff] at h
  unfold tMove
  by_cases h1 : m.Steps = []
  · simp [h1]
  · by_cases h2 : m.Repeat = 1
    · simp [h1, h2]; omega
    · simp [h1, h2]; omega
theorem tHand_len {h : Hand} (hg : gHand h = true) : (tHand h).length ≤ 30 := by
  have h1 := tShape_len h.Shape
  have h2 := tPlace_len h.Place
  have h3 := tMove_len (gHand_iff.1 hg).2.2.2
  unfold tHand tOrient
  simp only [List.length_append, List.length_cons, List.length_nil]
  omega
theorem i_Hand_text_eq {h : Hand} (hg : gHand h = true) : X.i_Hand_text h = some (tHand h) := by
  have hl := tHand_len hg
  obtain ⟨h1, h2, h3, h4⟩ := gHand_iff.1 hg
  unfold X.i_Hand_text
  simp only [i_Shape_text_eq h1, i_Orient_text_eq h2, (place_eqs h3).1, i_Move_text_eq h4, bind_some]
  unfold X.strings_Join
  have e : Lib.join [tShape h.Shape, tOrient h.Orient, tPlace h.Place, tMove h.Move] [47] = tHand h := by
    unfold Lib.join tHand
    simp [List.intercalate, List.intersperse]
  rw [e, if_pos ⟨by omega, by simp⟩]
  rfl
theorem s_siText_eq {h : Hand} (k : Nat) (hg : gHand h = true) : X.s_siText (k + 1) h = some (tHand h) := by
  have hl := tHand_len hg
  obtain ⟨h1, h2, h3, h4⟩ := gHand_iff.1 hg
  have l1 := tShape_len h.Shape
  have l2 := tPlace_len h.Place
  have l3 := tMove_len h4
  have l4 : (tOrient h.Orient).length = 2 := rfl
  unfold X.s_siText
  simp only [s_shText_eq k h1, s_orText_eq h2, (place_eqs h3).2, s_mvText_eq k h4, bind_some]
  rw [catS_of (by simp; omega), bind_some, catS_of (by simp; omega), bind_some, catS_of (by simp; omega), bind_some, catS_of (by simp; omega), bind_some, catS_of (by simp; omega), bind_some, catS_of (by simp; omega), bind_some]
  rfl
end Go.Proofs.XC
namespace Go.Proofs.XC
open Go Go.RowKit
/-! ### The normal form of a movement -/
def chk (s : Str) (n t : Nat) : Prop := Lib.repeatL (s.take n) t = s
instance (s : Str) (n t : Nat) : Decidable (chk s n t) := inferInstanceAs (Decidable (_ = _))
def okR (s : Str) (r : Nat) : Prop := s.length / r ≤ 6 ∧ chk s (s.length / r) r
instance (s : Str) (r : Nat) : Decidable (okR s r) := inferInstanceAs (Decidable (_ ∧ _))
def nMv (s : Str) : Move × Bool := if s = [] then (⟨[], 1⟩, true) else if okR s 3 then (⟨s.take (s.length / 3), 3⟩, true) else if okR s 2 then (⟨s.take (s.length / 2), 2⟩, true) else if okR s 1 then (⟨s.take (s.length / 1), 1⟩, true) else (zMove, false)
theorem cut0 (s : Str) (n : Nat) (h : n ≤ s.length) : cutS s 0 (n : Int) = some (s.take n) := by
  unfold cutS
  rw [if_pos ⟨by omega, by omega, by omega⟩]
  simp
theorem i_moveOf_eq {k : Nat} {s : Str} (hs : s.length ≤ 2000000) (hk : 5 ≤ k) : X.i_moveOf k s = some (nMv s) := by
  obtain ⟨q, rfl⟩ : ∃ q, k = q + 4 := ⟨k - 4, by omega⟩
  unfold X.i_moveOf nMv
  rw [seq_eq]
  by_cases h0 : s = []
  · simp [h0, zMove]
  have hd : ∀ r : Nat, 1 ≤ r → r ≤ 3 → divI (s.length : Int) (r : Int) = some ((s.length / r : Nat) : Int) := by
    intro r h1 h3
    unfold divI
    rw [if_neg (by omega)]
    have : ((s.length : Int).tdiv (r : Int)) = ((s.length / r : Nat) : Int) := by
      rw [Int.tdiv_eq_ediv_of_nonneg (by omega)]
      exact (Int.natCast_ediv _ _).symm
    rw [this]
    have h5 := Nat.div_le_self s.length r
    generalize s.length / r = d at h5 ⊢
    rw [wr_of (by omega) (by omega)]
  have hle : ∀ r : Nat, s.length / r ≤ s.length := fun r => Nat.div_le_self _ _
  have step : ∀ r : Nat, 1 ≤ r → r ≤ 3 → (Option.bind (divI (List.length s : Int) (r : Int)) fun y6_4 => (Option.bind (cutS s 0 y6_4) fun y6_5 => (bif decide ((List.length y6_5 : Int) ≤ 6) then (Option.bind (X.strings_Repeat y6_5 (r : Int)) fun v7_6 => (bif (seq v7_6 s) then some (.inr (.inl ((⟨y6_5, (r : Int)⟩ : Move), true))) else some (.inl (wr ((r : Int) - 1))))) else some (.inl (wr ((r : Int) - 1)))))) = some (if okR s r then (.inr (.inl ((⟨s.take (s.length / r), (r : Int)⟩ : Move), true))) else (.inl (((r - 1 : Nat) : Int))) : Int ⊕ ((Move × Bool) ⊕ Unit)) := by
    intro r h1 h3
    have hw : wr ((r : Int) - 1) = ((r - 1 : Nat) : Int) := by rw [wr_of (by omega) (by omega)]; omega
    rw [hd r h1 h3, bind_some, cut0 s _ (hle r), bind_some, hw, repeat_eq (by omega) (by omega) (by rw [List.length_take]; have h5 := hle r; have h6 := Nat.min_le_left (s.length / r) s.length; omega), bind_some, seq_eq, Int.toNat_natCast]
    have hl : (s.take (s.length / r)).length = s.length / r := by rw [List.length_take]; exact Nat.min_eq_left (hle r)
    rw [hl]
    unfold okR chk
    by_cases h6 : s.length / r ≤ 6
    · have : decide (((s.length / r : Nat) : Int) ≤ 6) = true := by simp; omega
      rw [this]
      by_cases h7 : Lib.repeatL (s.take (s.length / r)) r = s <;> simp [h6, h7]
    · have : decide (((s.length / r : Nat) : Int) ≤ 6) = false := by simp; omega
      rw [this]
      simp [h6]
  have s3 := step 3 (by omega) (by omega)
  have s2 := step 2 (by omega) (by omega)
  have s1 := step 1 (by omega) (by omega)
  simp only [h0, decide_false, cond_false, if_false, loopM_succ]
  rw [show decide ((3 : Int) ≥ 1) = true from rfl, cond_true]
  refine (congrArg (fun o => orEl (Option.bind o _) _ _) s3).trans ?_
  by_cases h3 : okR s 3
  · simp [h3, bind_some, orEl]
  simp only [h3, if_false, bind_some]
  refine (congrArg (fun o => orEl (Option.bind (bif decide ((2 : Int) ≥ 1) then o else _) _) _ _) s2).trans ?_
  by_cases h2 : okR s 2
  · simp [h2, bind_some, orEl]
  simp only [h2, if_false, show decide ((2 : Int) ≥ 1) = true from rfl, cond_true, bind_some]
  refine (congrArg (fun o => orEl (Option.bind (bif decide ((1 : Int) ≥ 1) then o else _) _) _ _) s1).trans ?_
  by_cases h1 : okR s 1
  · simp [h1, bind_some, orEl]
  simp only [h1, if_false, show decide ((1 : Int) ≥ 1) = true from rfl, cond_true, bind_some]
  rfl
/-- What the inner loop finds. -/
def inn (s : Str) (n : Nat) : Option Nat := if chk s n 1 then some 1 else if chk s n 2 then some 2 else if chk s n 3 then some 3 else none
theorem inner_eq {k : Nat} {s : Str} {n : Nat} (hs : s.length ≤ 2000000) (hn : n ≤ s.length) (hk : 5 ≤ k) :
    loopM (fun (n6 : Int) => (bif decide (n6 ≤ 3) then (Option.bind (cutS s 0 (n : Int)) fun y9_2 => (Option.bind (X.s_mvTimes k y9_2 n6) fun v9_4 => (bif (seq v9_4 s) then (Option.bind (cutS s 0 (n : Int)) fun y10_2 => some (.inr (.inl ((⟨y10_2, n6⟩ : Move), true)))) else some (.inl (wr (n6 + 1)))))) else some (.inr (.inr ())))) k 1
      = some (match inn s n with | some t => (.inl ((⟨s.take n, (t : Int)⟩ : Move), true) : (Move × Bool) ⊕ Unit) | none => .inr ()) := by
  have hl : (s.take n).length ≤ 2000000 := by rw [List.length_take]; omega
  have t1 := s_mvTimes_eq hl 1 k (by omega) (by omega)
  have t2 := s_mvTimes_eq hl 2 k (by omega) (by omega)
  have t3 := s_mvTimes_eq hl 3 k (by omega) (by omega)
  rw [show ((1 : Nat) : Int) = 1 from rfl] at t1
  rw [show ((2 : Nat) : Int) = 2 from rfl] at t2
  rw [show ((3 : Nat) : Int) = 3 from rfl] at t3
  have w1 : wr ((1 : Int) + 1) = 2 := rfl
  have w2 : wr ((2 : Int) + 1) = 3 := rfl
  have w3 : wr ((3 : Int) + 1) = 4 := rfl
  have v2 : wr (2 : Int) = 2 := rfl
  have v3 : wr (3 : Int) = 3 := rfl
  have v4 : wr (4 : Int) = 4 := rfl
  obtain ⟨q, hq⟩ : ∃ q, k = q + 4 := ⟨k - 4, by omega⟩
  rw [show loopM _ k (1 : Int) = loopM _ (q + 4) (1 : Int) from by rw [← hq]]
  unfold inn chk
  simp only [loopM_succ, cut0 s n hn, bind_some, t1, t2, t3, seq_eq, w1, w2, w3]
  by_cases h1 : Lib.repeatL (s.take n) 1 = s
  · simp [h1, bind_some]
  by_cases h2 : Lib.repeatL (s.take n) 2 = s
  · simp [h1, h2, bind_some, t2, w1, v2]
  by_cases h3 : Lib.repeatL (s.take n) 3 = s
  · simp [h1, h2, h3, bind_some, t2, t3, w1, w2, v2, v3]
  · simp [h1, h2, h3, bind_some, t2, t3, w1, w2, w3, v2, v3, v4]
/-- What the outer loop finds, from n on, in j rounds. -/
def search (s : Str) : Nat → Nat → (Move × Bool) ⊕ Unit
  | _, 0 => .inr ()
  | n, j + 1 => if n ≤ s.length then match inn s n with
    | some t => .inl (⟨s.take n, (t : Int)⟩, true)
    | none => search s (n + 1) j
    else .inr ()
theorem s_mvOf_search {k : Nat} {s : Str} (hs : s.length ≤ 2000000) (h0 : s ≠ []) (hk : 10 ≤ k) : X.s_mvOf k s = some (match search s 1 6 with | .inl r => r | .inr _ => (zMove, false)) := by
  unfold X.s_mvOf
  rw [seq_eq]
  simp only [h0, decide_false, cond_false]
  have key : ∀ (j n q : Nat), n + j = 7 → j < q → loopM (fun (n2 : Int) => (bif decide (n2 ≤ 6) then (bif decide (n2 ≤ (List.length s : Int)) then (orEl (loopM (fun (n6 : Int) => (bif decide (n6 ≤ 3) then (Option.bind (cutS s 0 n2) fun y9_2 => (Option.bind (X.s_mvTimes k y9_2 n6) fun v9_4 => (bif (seq v9_4 s) then (Option.bind (cutS s 0 n2) fun y10_2 => some (.inr (.inl ((⟨y10_2, n6⟩ : Move), true)))) else some (.inl (wr (n6 + 1)))))) else some (.inr (.inr ())))) k 1) (fun r => some (.inr (.inl r))) (fun _ => some (.inl (wr (n2 + 1))))) else some (.inr (.inr ()))) else some (.inr (.inr ())))) q (n : Int) = some (search s n j) := by
    intro j
    induction j with
    | zero =>
      intro n q hn hq
      obtain ⟨p, rfl⟩ : ∃ p, q = p + 1 := ⟨q - 1, by omega⟩
      have hd : decide ((n : Int) ≤ 6) = false := by simp; omega
      rw [loopM_succ, hd]
      rfl
    | succ j ih =>
      intro n q hn hq
      obtain ⟨p, rfl⟩ : ∃ p, q = p + 1 := ⟨q - 1, by omega⟩
      have hd : decide ((n : Int) ≤ 6) = true := by simp; omega
      rw [loopM_succ, hd, cond_true, search]
      by_cases hl : n ≤ s.length
      · have hd2 : decide ((n : Int) ≤ (s.length : Int)) = true := by simp; omega
        rw [hd2, cond_true, inner_eq hs hl (by omega), if_pos hl]
        cases hi : inn s n with
        | some t => rfl
        | none =>
          have hw : wr ((n : Int) + 1) = ((n + 1 : Nat) : Int) := by rw [wr_of (by omega) (by omega)]; rfl
          simp only [orEl_inr, bind_some, hw]
          exact ih (n + 1) p (by omega) (by omega)
      · have hd2 : decide ((n : Int) ≤ (s.length : Int)) = false := by simp; omega
        rw [hd2, cond_false, if_neg hl]
        rfl
  have := key 6 1 k rfl (by omega)
  refine (congrArg (fun o => orEl o _ _) this).trans ?_
  cases search s 1 6 <;> rfl
theorem chk_len {s : Str} {n t : Nat} (hn : n ≤ s.length) (h : chk s n t) : t * n = s.length := by
  have := congrArg List.length h
  rw [Lib.repeatL_length, List.length_take, Nat.min_eq_left hn] at this
  exact this
theorem search_hit {s : Str} {t n0 : Nat} (hi : inn s n0 = some t) (hl : n0 ≤ s.length) : ∀ (j n : Nat), n ≤ n0 → n0 < n + j → (∀ m, n ≤ m → m < n0 → inn s m = none) → search s n j = .inl (⟨s.take n0, (t : Int)⟩, true)
  | 0, n, h1, h2, _ => by omega
  | j + 1, n, h1, h2, hno => by
    rw [search, if_pos (by omega)]
    by_cases h : n = n0
    · subst h
      rw [hi]
    · rw [hno n (Nat.le_refl _) (by omega)]
      exact search_hit hi hl j (n + 1) (by omega) (by omega) (fun m h3 h4 => hno m (by omega) h4)
theorem search_miss {s : Str} : ∀ (j n : Nat), (∀ m, n ≤ m → m < n + j → m ≤ s.length → inn s m = none) → search s n j = .inr ()
  | 0, n, _ => rfl
  | j + 1, n, hno => by
    rw [search]
    split
    · rename_i hl
      rw [hno n (Nat.le_refl _) (by omega) hl]
      exact search_miss j (n + 1) (fun m h3 h4 h5 => hno m (by omega) (by omega) h5)
    · rfl
theorem inn_none {s : Str} {n : Nat} (h1 : ¬ chk s n 1) (h2 : ¬ chk s n 2) (h3 : ¬ chk s n 3) : inn s n = none := by
  unfold inn
  rw [if_neg h1, if_neg h2, if_neg h3]
theorem okR_of {s : Str} {n t : Nat} (ht : 1 ≤ t) (hn : n ≤ s.length) (h6 : n ≤ 6) (h : chk s n t) : okR s t := by
  have hl := chk_len hn h
  have : s.length / t = n := by rw [← hl, Nat.mul_comm]; exact Nat.mul_div_cancel n ht
  unfold okR
  rw [this]
  exact ⟨h6, h⟩
theorem s_mvOf_eq {k : Nat} {s : Str} (hs : s.length ≤ 2000000) (hk : 10 ≤ k) : X.s_mvOf k s = some (nMv s) := by
  by_cases h0 : s = []
  · subst h0
    unfold X.s_mvOf nMv
    rw [seq_eq]
    simp [zMove]
  rw [s_mvOf_search hs h0 hk]
  unfold nMv
  rw [if_neg h0]
  have hpos : 0 < s.length := List.length_pos_iff.2 h0
  have hno : ∀ r, 1 ≤ r → okR s r → (∀ t, 1 ≤ t → t ≤ 3 → r < t → ¬ okR s t) → inn s (s.length / r) = some r ∨ 3 < r := by
    intro r hr ho hgt
    have hle := Nat.div_le_self s.length r
    have hl := chk_len hle ho.2
    have hn0 : 0 < s.length / r := by
      rcases Nat.eq_zero_or_pos (s.length / r) with h | h
      · rw [h] at hl; omega
      · exact h
    have un : ∀ t, chk s (s.length / r) t → t = r := by
      intro t ht
      have h9 := chk_len hle ht
      exact Nat.eq_of_mul_eq_mul_right hn0 (h9.trans hl.symm)
    by_cases h3 : 3 < r
    · exact .inr h3
    · left
      have hr2 : r = 1 ∨ r = 2 ∨ r = 3 := by omega
      unfold inn
      rcases hr2 with h | h | h <;> subst h
      · rw [if_pos ho.2]
      · rw [if_neg (fun h => by have := un 1 h; omega), if_pos ho.2]
      · rw [if_neg (fun h => by have := un 1 h; omega), if_neg (fun h => by have := un 2 h; omega), if_pos ho.2]
  have hit : ∀ r, 1 ≤ r → r ≤ 3 → okR s r → (∀ t, 1 ≤ t → t ≤ 3 → r < t → ¬ okR s t) → search s 1 6 = .inl (⟨s.take (s.length / r), (r : Int)⟩, true) := by
    intro r hr h3 ho hgt
    have hle := Nat.div_le_self s.length r
    have hl := chk_len hle ho.2
    have hn0 : 0 < s.length / r := by
      rcases Nat.eq_zero_or_pos (s.length / r) with h | h
      · rw [h] at hl; omega
      · exact h
    have h6 := ho.1
    rcases hno r hr ho hgt with h | h
    · refine search_hit h hle 6 1 hn0 (by omega) (fun m h1 h2 => ?_)
      have bad : ∀ t, 1 ≤ t → t ≤ 3 → ¬ chk s m t := by
        intro t ht1 ht3 hc
        have hc2 := chk_len (by omega) hc
        have ok := okR_of ht1 (by omega) (by omega) hc
        refine hgt t ht1 ht3 ?_ ok
        rcases Nat.lt_or_ge r t with h | h
        · exact h
        · exfalso
          have h7 : t * m ≤ r * m := Nat.mul_le_mul_right m h
          have h8 : r * m < r * (s.length / r) := Nat.mul_lt_mul_of_pos_left h2 (by omega)
          omega
      exact inn_none (bad 1 (by omega) (by omega)) (bad 2 (by omega) (by omega)) (bad 3 (by omega) (by omega))
    · omega
  by_cases h3 : okR s 3
  · rw [if_pos h3, hit 3 (by omega) (by omega) h3 (fun t h1 h2 h3 => by omega)]
    rfl
  rw [if_neg h3]
  by_cases h2 : okR s 2
  · rw [if_pos h2, hit 2 (by omega) (by omega) h2 (fun t h1 h4 h5 => by
      have h6 : t = 3 := by omega
      rw [h6]
      exact h3)]
    rfl
  rw [if_neg h2]
  by_cases h1 : okR s 1
  · rw [if_pos h1, hit 1 (by omega) (by omega) h1 (fun t h6 h4 h5 => by
      have h7 : t = 2 ∨ t = 3 := by omega
      rcases h7 with h | h
      · rw [h]; exact h2
      · rw [h]; exact h3)]
    rfl
  rw [if_neg h1, search_miss 6 1 (fun m h4 h5 h6 => inn_none (fun h => h1 (okR_of (by omega) h6 (by omega) h)) (fun h => h2 (okR_of (by omega) h6 (by omega) h)) (fun h => h3 (okR_of (by omega) h6 (by omega) h)))]
end Go.Proofs.XC
namespace Go.Proofs.XC
open Go Go.RowKit
theorem repeatL_one (s : Str) : Lib.repeatL s 1 = s := by simp [Lib.repeatL]
theorem all_len {m : Move} (h : gMove m = true) : (allSteps m).length ≤ 18 := by
  obtain ⟨h1, _, h3, _⟩ := gMove_iff.1 h
  unfold allSteps
  rw [Lib.repeatL_length]
  have : m.Repeat.toNat * m.Steps.length ≤ 3 * 6 := Nat.mul_le_mul (by omega) h1
  omega
theorem repeatL_all (s : Str) (p : UInt8 → Bool) : ∀ n, s.all p = true → (Lib.repeatL s n).all p = true
  | 0, _ => rfl
  | n + 1, h => by
    rw [Lib.repeatL, List.all_append, h, repeatL_all s p n h]
    rfl
theorem all_dirs {m : Move} (h : gMove m = true) : (allSteps m).all isDir = true := repeatL_all _ _ _ (gMove_iff.1 h).2.1
/-- The normal form. -/
def nM (m : Move) : Move := (nMv (allSteps m)).1
/-- It is one, and has the same steps. -/
theorem nMv_good {m : Move} (h : gMove m = true) : gMove (nM m) = true ∧ allSteps (nM m) = allSteps m ∧ (nM m).Steps.isEmpty = m.Steps.isEmpty := by
  obtain ⟨g1, g2, g3, g4⟩ := gMove_iff.1 h
  have hall := all_dirs h
  have hempty : allSteps m = [] ↔ m.Steps = [] := by
    unfold allSteps
    constructor
    · intro e
      have := congrArg List.length e
      rw [Lib.repeatL_length] at this
      simp only [List.length_nil] at this
      rcases Nat.mul_eq_zero.1 this with h | h
      · omega
      · exact List.eq_nil_of_length_eq_zero h
    · intro e
      rw [e]
      have : ∀ n, Lib.repeatL [] n = [] := by
        intro n
        induction n with
        | zero => rfl
        | succ n ih => rw [Lib.repeatL, ih]; rfl
      exact this _
  have hx : ∃ r, 1 ≤ r ∧ r ≤ 3 ∧ (allSteps m ≠ [] → okR (allSteps m) r) := by
    refine ⟨m.Repeat.toNat, by omega, by omega, fun hne => ?_⟩
    have hl : (allSteps m).length / m.Repeat.toNat = m.Steps.length := by
      unfold allSteps
      rw [Lib.repeatL_length]
      exact Nat.mul_div_cancel_left _ (by omega)
    refine ⟨by rw [hl]; exact g1, ?_⟩
    unfold chk
    rw [hl]
    have : (allSteps m).take m.Steps.length = m.Steps := by
      unfold allSteps
      obtain ⟨q, hq⟩ : ∃ q, m.Repeat.toNat = q + 1 := ⟨m.Repeat.toNat - 1, by omega⟩
      rw [hq, Lib.repeatL, List.take_left]
    rw [this]
    rfl
  have one : ∀ r, 1 ≤ r → r ≤ 3 → allSteps m ≠ [] → okR (allSteps m) r → gMove ⟨(allSteps m).take ((allSteps m).length / r), (r : Int)⟩ = true ∧ allSteps ⟨(allSteps m).take ((allSteps m).length / r), (r : Int)⟩ = allSteps m ∧ ((allSteps m).take ((allSteps m).length / r)).isEmpty = m.Steps.isEmpty := by
    intro r h1 h3 hne ho
    have hle := Nat.div_le_self (allSteps m).length r
    have hl := chk_len hle ho.2
    have hpos : 0 < (allSteps m).length := List.length_pos_iff.2 hne
    have hd : 0 < (allSteps m).length / r := by
      rcases Nat.eq_zero_or_pos ((allSteps m).length / r) with h | h
      · rw [h] at hl; omega
      · exact h
    have hlen : ((allSteps m).take ((allSteps m).length / r)).length = (allSteps m).length / r := by rw [List.length_take]; exact Nat.min_eq_left hle
    have hne2 : (allSteps m).take ((allSteps m).length / r) ≠ [] := by
      intro e
      rw [e] at hlen
      simp only [List.length_nil] at hlen
      omega
    refine ⟨gMove_iff.2 ⟨by rw [hlen]; exact ho.1, ?_, ⟨by show (1 : Int) ≤ (r : Int); omega, by show (r : Int) ≤ 3; omega⟩, .inl hne2⟩, ?_, ?_⟩
    · rw [List.all_eq_true] at hall ⊢
      intro b hb
      exact hall b (List.mem_of_mem_take hb)
    · show Lib.repeatL _ ((r : Int)).toNat = _
      rw [Int.toNat_natCast]
      exact ho.2
    · rw [isEmpty_iff', isEmpty_iff']
      have : m.Steps ≠ [] := fun e => hne (hempty.2 e)
      simp [hne2, this]
  unfold nM nMv
  by_cases h0 : allSteps m = []
  · rw [if_pos h0]
    refine ⟨rfl, ?_, ?_⟩
    · rw [h0]; rfl
    · rw [isEmpty_iff', isEmpty_iff']
      simp [hempty.1 h0]
  rw [if_neg h0]
  by_cases h3 : okR (allSteps m) 3
  · rw [if_pos h3]; exact one 3 (by omega) (by omega) h0 h3
  rw [if_neg h3]
  by_cases h2 : okR (allSteps m) 2
  · rw [if_pos h2]; exact one 2 (by omega) (by omega) h0 h2
  rw [if_neg h2]
  by_cases h1 : okR (allSteps m) 1
  · rw [if_pos h1]; exact one 1 (by omega) (by omega) h0 h1
  exfalso
  obtain ⟨r, hr1, hr3, hr⟩ := hx
  have : r = 1 ∨ r = 2 ∨ r = 3 := by omega
  rcases this with h | h | h
  · exact h1 (h ▸ hr h0)
  · exact h2 (h ▸ hr h0)
  · exact h3 (h ▸ hr h0)
theorem i_Move_normal_eq {k : Nat} {m : Move} (h : gMove m = true) (hk : 10 ≤ k) : X.i_Move_normal k m = some (nM m) := by
  have := all_len h
  unfold X.i_Move_normal
  rw [i_Move_all_eq h, bind_some, i_moveOf_eq (by omega) (by omega)]
  rfl
theorem s_mvNormal_eq {k : Nat} {m : Move} (h : gMove m = true) (hk : 10 ≤ k) : X.s_mvNormal k m = some (nM m) := by
  have := all_len h
  unfold X.s_mvNormal
  rw [s_mvAll_eq h (by omega), bind_some, s_mvOf_eq (by omega) (by omega)]
  rfl
def nH (h : Hand) : Hand := { h with Move := nM h.Move }
theorem i_Hand_normal_eq {k : Nat} {h : Hand} (g : gMove h.Move = true) (hk : 10 ≤ k) : X.i_Hand_normal k h = some (nH h) := by
  unfold X.i_Hand_normal
  rw [i_Move_normal_eq g hk]
  rfl
theorem s_noHand_eq {k : Nat} {h : Hand} (g : gMove h.Move = true) (hk : 10 ≤ k) : X.s_noHand k h = some (nH h) := by
  unfold X.s_noHand
  rw [s_mvNormal_eq g hk]
  rfl
theorem gHand_nH {h : Hand} (g : gHand h = true) : gHand (nH h) = true := by
  rw [gHand_iff] at g ⊢
  exact ⟨g.1, g.2.1, g.2.2.1, (nMv_good g.2.2.2).1⟩
/-- The kind of a sign. -/
def kind (s : Sign) : Int := if s.Two = false then 0 else if s.Other.Move.Steps ≠ [] then 1 else if s.Main.Shape = s.Other.Shape then 2 else 3
theorem i_kind_eq (s : Sign) : X.i_Sign_kind s = some (kind s) := by
  unfold X.i_Sign_kind kind
  simp only [moves_eq, bind_some, qShape_iff, isEmpty_iff']
  have e : (s.Other.Shape = s.Main.Shape) ↔ (s.Main.Shape = s.Other.Shape) := eq_comm
  simp only [e]
  cases s.Two
  · simp
  by_cases h1 : s.Other.Move.Steps = [] <;> by_cases h2 : s.Main.Shape = s.Other.Shape <;> simp [h1, h2]
theorem s_kind_eq (s : Sign) : X.s_siKind s = some (kind s) := by
  unfold X.s_siKind kind
  simp only [seq_eq, qShape_iff]
  cases s.Two
  · simp
  by_cases h1 : s.Other.Move.Steps = [] <;> by_cases h2 : s.Main.Shape = s.Other.Shape <;> simp [h1, h2]
/-- The normal form of a sign. -/
def nS (s : Sign) : Sign := if s.Two = false then ⟨nH s.Main, false, zHand⟩ else
  if kind ⟨nH s.Main, true, nH s.Other⟩ = 1 ∧ slt (tHand (nH s.Other)) (tHand (nH s.Main)) = true then ⟨nH s.Other, true, nH s.Main⟩ else ⟨nH s.Main, true, nH s.Other⟩
theorem gSign_main {s : Sign} (g : gSign s = true) : gHand s.Main = true := by
  unfold gSign at g
  simp only [Bool.and_eq_true] at g
  exact g.1
theorem gSign_other {s : Sign} (g : gSign s = true) (h : s.Two = true) : gHand s.Other = true ∧ gKeep s.Main s.Other = true := by
  unfold gSign at g
  simpa [h, gSign_main g] using g
theorem gSign_none {s : Sign} (g : gSign s = true) (h : s.Two = false) : s.Other = zHand := by
  unfold gSign at g
  simpa [h, gSign_main g] using g
theorem i_normal_eq {k : Nat} {s : Sign} (g : gSign s = true) (hk : 10 ≤ k) : X.i_Sign_normal k s = some (nS s) := by
  have gm := gSign_main g
  unfold X.i_Sign_normal nS
  rw [i_Hand_normal_eq (gHand_iff.1 gm).2.2.2 hk, bind_some]
  cases h : s.Two with
  | false =>
    have ho := gSign_none g h
    simp [h, ho]
  | true =>
    have go := (gSign_other g h).1
    rw [i_Hand_normal_eq (gHand_iff.1 go).2.2.2 hk]
    simp only [bind_some, i_kind_eq, i_Hand_text_eq (gHand_nH gm), i_Hand_text_eq (gHand_nH go), Bool.not_true, cond_false]
    by_cases h1 : kind ⟨nH s.Main, true, nH s.Other⟩ = 1
    · cases h2 : slt (tHand (nH s.Other)) (tHand (nH s.Main)) <;> simp [h1, h2]
    · rw [beq_eq_false_iff_ne.2 h1]
      simp [h1]
theorem s_noForm_eq {k : Nat} {s : Sign} (g : gSign s = true) (hk : 10 ≤ k) : X.s_noForm k s = some (nS s) := by
  obtain ⟨q, rfl⟩ : ∃ q, k = q + 1 := ⟨k - 1, by omega⟩
  have gm := gSign_main g
  unfold X.s_noForm nS
  rw [s_noHand_eq (gHand_iff.1 gm).2.2.2 hk, bind_some]
  cases h : s.Two with
  | false => simp [zSign]
  | true =>
    have go := (gSign_other g h).1
    rw [s_noHand_eq (gHand_iff.1 go).2.2.2 hk]
    simp only [bind_some, s_kind_eq, s_siText_eq q (gHand_nH gm), s_siText_eq q (gHand_nH go), Bool.not_true, cond_false]
    by_cases h1 : kind ⟨nH s.Main, true, nH s.Other⟩ = 1
    · cases h2 : slt (tHand (nH s.Other)) (tHand (nH s.Main)) <;> simp [h1, h2]
    · rw [beq_eq_false_iff_ne.2 h1]
      simp [h1]
end Go.Proofs.XC
namespace Go.Proofs.XC
open Go Go.RowKit
/-! ### Sizes -/
/-! ### PatternOf -/
theorem beq_dec (a b : Int) : (a == b) = decide (a = b) := by rw [Bool.eq_iff_iff]; simp
end Go.Proofs.XC
