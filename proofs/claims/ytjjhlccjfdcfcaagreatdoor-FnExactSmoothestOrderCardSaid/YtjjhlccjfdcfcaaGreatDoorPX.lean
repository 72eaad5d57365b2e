/- Plain laws of the plain functions: no program, no memory. By AI agents; no person has read it. -/
import Derived.Test.YtjjhlccjfdcfcaaGreatDoorX
set_option linter.unusedVariables false
set_option linter.unusedSimpArgs false
set_option maxRecDepth 100000
set_option maxHeartbeats 40000000
namespace Go.Proofs.XC
open Go Go.RowKit

/-! ### Words -/
theorem wr_of {z : Int} (h1 : -9223372036854775808 ≤ z) (h2 : z ≤ 9223372036854775807) : wr z = z := by
  show IntKind.i64.wrap z = z
  rw [IntKind.wrap_i64]
  omega
theorem bind_some {α β : Type} (a : α) (f : α → Option β) : Option.bind (some a) f = f a := rfl
theorem loopM_succ {σ ρ : Type} (body : σ → Option (σ ⊕ ρ)) (n : Nat) (s : σ) : loopM body (n + 1) s = (body s).bind fun o => match o with | .inl s' => loopM body n s' | .inr r => some r := rfl
theorem rangeM_nil {α σ ρ : Type} (body : Int → α → σ → Option (σ ⊕ ρ)) (fin : σ → Option ρ) (j : Nat) (s : σ) : rangeM body fin [] j s = fin s := rfl
theorem rangeM_cons {α σ ρ : Type} (body : Int → α → σ → Option (σ ⊕ ρ)) (fin : σ → Option ρ) (x : α) (l : List α) (j : Nat) (s : σ) : rangeM body fin (x :: l) j s = (body j x s).bind fun o => match o with | .inl s' => rangeM body fin l (j + 1) s' | .inr r => some r := rfl
def inR (x a b : Int) : Bool := decide (a ≤ x) && decide (x ≤ b)
theorem inR_iff {x a b : Int} : inR x a b = true ↔ a ≤ x ∧ x ≤ b := by simp [inR]
theorem i_within_eq (x a b : Int) : X.i_within x a b = some (inR x a b) := by
  unfold X.i_within inR
  by_cases h : a ≤ x <;> simp [h]
theorem s_l1In_eq (x a b : Int) : X.s_l1In x a b = some (inR x a b) := i_within_eq x a b
/-- A search. -/
theorem find_eq {α : Type} (p : α → Bool) (F : α → Option Bool) : ∀ (l : List α) (j : Nat), (∀ x ∈ l, F x = some (p x)) →
    rangeM (fun (j2 : Int) (x3 : α) (_ : Unit) => (Option.bind (F x3) fun v => (bif v then some (.inr (Sum.inl j2)) else some (.inl ())))) (fun _ => some (Sum.inr ())) l j () = some (match l.findIdx? p with | some i => .inl ((j + i : Nat) : Int) | none => .inr ())
  | [], j, _ => rfl
  | x :: l, j, h => by
    rw [rangeM_cons, h x List.mem_cons_self]
    simp only [bind_some, List.findIdx?_cons]
    cases hp : p x with
    | true => simp [bind_some]
    | false =>
      simp only [cond_false, bind_some, Bool.false_eq_true, if_false]
      rw [find_eq p F l (j + 1) (fun y hy => h y (List.mem_cons_of_mem _ hy))]
      cases l.findIdx? p with
      | none => rfl
      | some i =>
        simp only [Option.map_some]
        congr 2
        omega
theorem anyF_eq {α : Type} (p : α → Bool) (F : α → Option Bool) (l : List α) (h : ∀ x ∈ l, F x = some (p x)) :
    (Option.bind (orEl (rangeM (fun (j2 : Int) (x3 : α) (_ : Unit) => (Option.bind (F x3) fun v => (bif v then some (.inr (Sum.inl j2)) else some (.inl ())))) (fun _ => some (Sum.inr ())) l 0 ()) (fun r => some r) (fun _ => some (-1))) fun v => some (decide (v ≥ 0))) = some (l.any p) := by
  rw [find_eq p F l 0 h]
  cases hf : l.findIdx? p with
  | none =>
    rw [List.findIdx?_eq_none_iff] at hf
    have : l.any p = false := by
      rw [List.any_eq_false]
      intro x hx
      simp [hf x hx]
    simp [orEl, this]
  | some i =>
    have : l.any p = true := by
      rw [List.any_eq_true]
      obtain ⟨h1, h2, _⟩ := List.findIdx?_eq_some_iff_getElem.1 hf
      exact ⟨_, List.getElem_mem h1, h2⟩
    simp [orEl, this]
theorem allIn_eq (l : List Int) (a b : Int) : X.i_allWithin l a b = some (l.all fun x => inR x a b) := by
  unfold X.i_allWithin X.slices_ContainsFunc_int_int X.slices_IndexFunc_int_int
  have := anyF_eq (fun x => !(inR x a b)) (X.i_allWithin_1 a b) l (fun x _ => by unfold X.i_allWithin_1; rw [i_within_eq]; rfl)
  rw [this]
  simp only [bind_some]
  congr 1
  rw [List.any_eq_not_all_not]
  simp
theorem s_l1All_eq (l : List Int) (a b : Int) : X.s_l1All l a b = some (l.all fun x => inR x a b) := by
  unfold X.s_l1All
  have key : ∀ (l : List Int) (j : Nat), rangeM (fun (j2 : Int) (x3 : Int) (_ : Unit) => (Option.bind (X.s_l1In x3 a b) fun v4_3 => (bif (!v4_3) then some (.inr (Sum.inl false)) else some (.inl ())))) (fun _ => some (Sum.inr ())) l j () = some (bif (l.all fun x => inR x a b) then .inr () else .inl false) := by
    intro l
    induction l with
    | nil => intro j; rfl
    | cons x l ih =>
      intro j
      rw [rangeM_cons, s_l1In_eq]
      cases h : inR x a b
      · simp [bind_some, h]
      · simp only [bind_some, Bool.not_true, cond_false, List.all_cons, h, Bool.true_and]
        exact ih _
  rw [key]
  cases (l.all fun x => inR x a b) <;> rfl

/-! ### Shapes -/
def wide (s : Shape) : Bool := (s.Index == 0 && s.Middle == 0) || (s.Middle == 0 && s.Ring == 0) || (s.Ring == 0 && s.Little == 0)
def gShape (s : Shape) : Bool := inR s.Thumb 0 2 && (inR s.Index 0 2 && (inR s.Middle 0 2 && (inR s.Ring 0 2 && inR s.Little 0 2))) && (!s.Spread || wide s)
theorem maySpread_eq (s : Shape) : X.i_Shape_maySpread s = some (wide s) := by
  unfold X.i_Shape_maySpread wide
  cases h1 : s.Index == 0 <;> cases h2 : s.Middle == 0 <;> cases h3 : s.Ring == 0 <;> cases h4 : s.Little == 0 <;> rfl
theorem i_IsShape_eq (s : Shape) : X.i_IsShape s = some (gShape s) := by
  unfold X.i_IsShape X.i_Shape_bends gShape
  simp only [bind_some, allIn_eq, maySpread_eq]
  have : appG (eI .i64) [s.Thumb] [s.Index, s.Middle, s.Ring, s.Little] = some [s.Thumb, s.Index, s.Middle, s.Ring, s.Little] := rfl
  rw [this]
  simp only [bind_some, allIn_eq, List.all_cons, List.all_nil, Bool.and_true]
  cases (inR s.Thumb 0 2 && (inR s.Index 0 2 && (inR s.Middle 0 2 && (inR s.Ring 0 2 && inR s.Little 0 2)))) <;> cases s.Spread <;> rfl
theorem s_shWide_eq (k : Nat) (s : Shape) : X.s_shWide (k + 4) s = some (wide s) := by
  unfold X.s_shWide X.s_shFingers wide
  have w : ∀ z : Int, -100 ≤ z → z ≤ 100 → wr z = z := fun z h1 h2 => wr_of (by omega) (by omega)
  simp only [bind_some, loopM_succ]
  cases h1 : s.Index == 0 <;> cases h2 : s.Middle == 0 <;> cases h3 : s.Ring == 0 <;> cases h4 : s.Little == 0 <;> simp [w, getI, h1, h2, h3, h4, orEl, bind_some]
theorem s_shGood_eq (k : Nat) (s : Shape) : X.s_shGood (k + 4) s = some (gShape s) := by
  unfold X.s_shGood X.s_shFingers gShape
  simp only [bind_some, s_l1In_eq, s_l1All_eq, s_shWide_eq, List.all_cons, List.all_nil, Bool.and_true]
  cases inR s.Thumb 0 2 <;> cases (inR s.Index 0 2 && (inR s.Middle 0 2 && (inR s.Ring 0 2 && inR s.Little 0 2))) <;> cases s.Spread <;> rfl

/-! ### Orientations, places -/
def opp (d : Int) : Int := if d.tmod 2 = 0 then d + 1 else d - 1
def gOrient (o : Orient) : Bool := inR o.Palm 0 5 && inR o.Fingers 0 5 && (o.Palm != o.Fingers && o.Palm != opp o.Fingers)
theorem inR_cases {x : Int} (h : inR x 0 5 = true) : x = 0 ∨ x = 1 ∨ x = 2 ∨ x = 3 ∨ x = 4 ∨ x = 5 := by
  rw [inR_iff] at h
  omega
theorem i_IsOrient_eq (o : Orient) : X.i_IsOrient o = some (gOrient o) := by
  unfold X.i_IsOrient gOrient
  simp only [bind_some, i_within_eq]
  cases h1 : inR o.Palm 0 5
  · rfl
  cases h2 : inR o.Fingers 0 5
  · rfl
  rcases inR_cases h1 with h | h | h | h | h | h <;> rcases inR_cases h2 with g | g | g | g | g | g <;> rw [h, g] <;> rfl
theorem s_orOpposite_eq {d : Int} (h : inR d 0 5 = true) : X.s_orOpposite d = some (opp d) := by
  rcases inR_cases h with h | h | h | h | h | h <;> rw [h] <;> rfl
theorem s_orGood_eq (o : Orient) : X.s_orGood o = some (gOrient o) := by
  unfold X.s_orGood X.s_orDir gOrient
  simp only [bind_some, s_l1In_eq]
  cases h1 : inR o.Palm 0 5
  · rfl
  cases h2 : inR o.Fingers 0 5
  · rfl
  simp only [bind_some, s_orOpposite_eq h2, cond_true, Bool.true_and]
  cases o.Palm != o.Fingers <;> rfl
def gPlace (p : Place) : Bool := inR p.Region 0 9 && inR p.Side (-1) 1 && !(p.Contact && p.Region == 0)
theorem i_IsPlace_eq (p : Place) : X.i_IsPlace p = some (gPlace p) := by
  unfold X.i_IsPlace gPlace
  simp only [bind_some, i_within_eq]
  cases h1 : inR p.Region 0 9
  · rfl
  cases h2 : inR p.Side (-1) 1
  · rfl
  cases p.Contact <;> rfl
theorem s_plGood_eq (p : Place) : X.s_plGood p = some (gPlace p) := by
  unfold X.s_plGood gPlace
  simp only [bind_some, s_l1In_eq]
  cases h1 : inR p.Region 0 9
  · rfl
  cases h2 : inR p.Side (-1) 1
  · rfl
  rw [inR_iff] at h1
  by_cases h : p.Region > 0
  · have : (p.Region == 0) = false := by simp; omega
    simp [h, this]
  · have : p.Region = 0 := by omega
    simp [this]

/-! ### Movements -/
def dirs : Str := [117, 100, 108, 114, 102, 98]
def isDir (b : UInt8) : Bool := b == 117 || (b == 100 || (b == 108 || (b == 114 || (b == 102 || b == 98))))
def gMove (m : Move) : Bool := decide (m.Steps.length ≤ 6) && (m.Steps.all isDir && (inR m.Repeat 1 3 && (!m.Steps.isEmpty || m.Repeat == 1)))
theorem getB_of {s : Str} {i : Nat} {b : UInt8} (h : s[i]? = some b) : getB s (i : Int) = some (b.toNat : Int) := by
  unfold getB getI
  rw [if_pos (by omega)]
  simp [h]
theorem seq_nil (s : Str) : seq s [] = s.isEmpty := by
  rw [seq_eq]
  cases s <;> simp
theorem ne_byte {b : UInt8} {c : Nat} (hc : c < 256) (h : b ≠ UInt8.ofNat c) : ((c : Int) == (b.toNat : Int)) = false := by
  rw [beq_eq_false_iff_ne]
  intro e
  apply h
  apply UInt8.toNat_inj.1
  have h2 : (UInt8.ofNat c).toNat = c := by simp; omega
  omega
theorem isDir_cases {b : UInt8} (h : isDir b = true) : b = 117 ∨ b = 100 ∨ b = 108 ∨ b = 114 ∨ b = 102 ∨ b = 98 := by
  simpa [isDir] using h
theorem mvIndex_eq (k : Nat) (b : UInt8) : ∃ z, X.s_mvIndex (k + 7) (b.toNat : Int) = some z ∧ decide (z < 0) = !(isDir b) := by
  cases hd : isDir b with
  | true =>
    rcases isDir_cases hd with h | h | h | h | h | h <;> subst h
    · exact ⟨0, rfl, rfl⟩
    · exact ⟨1, rfl, rfl⟩
    · exact ⟨2, rfl, rfl⟩
    · exact ⟨3, rfl, rfl⟩
    · exact ⟨4, rfl, rfl⟩
    · exact ⟨5, rfl, rfl⟩
  | false =>
    have w : ∀ z : Int, -100 ≤ z → z ≤ 100 → wr z = z := fun z h1 h2 => wr_of (by omega) (by omega)
    have hn : ∀ c : UInt8, isDir c = true → b ≠ c := fun c hc e => by rw [e, hc] at hd; cases hd
    have g0 := ne_byte (b := b) (c := 117) (by omega) (hn _ rfl)
    have g1 := ne_byte (b := b) (c := 100) (by omega) (hn _ rfl)
    have g2 := ne_byte (b := b) (c := 108) (by omega) (hn _ rfl)
    have g3 := ne_byte (b := b) (c := 114) (by omega) (hn _ rfl)
    have g4 := ne_byte (b := b) (c := 102) (by omega) (hn _ rfl)
    have g5 := ne_byte (b := b) (c := 98) (by omega) (hn _ rfl)
    refine ⟨-1, ?_, rfl⟩
    unfold X.s_mvIndex X.s_mvLetters
    simp only [bind_some, loopM_succ]
    have s0 : (bif decide ((0 : Int) < ((List.length ([117, 100, 108, 114, 102, 98] : Str) : Nat) : Int)) then 1 else 0) = 1 := rfl
    simp only [Int.cast_ofNat_Int] at g0 g1 g2 g3 g4 g5
    simp [w, getB, getI, bind_some, orEl, g0, g1, g2, g3, g4, g5]
/-- A loop over a list, index by index. -/
def foldS {α σ ρ : Type} (g : Nat → α → σ → σ ⊕ ρ) (fin : σ → ρ) : List α → Nat → σ → ρ
  | [], _, s => fin s
  | x :: l, i, s => match g i x s with
    | .inl s' => foldS g fin l (i + 1) s'
    | .inr r => r
theorem forS {α σ τ ρ : Type} {l : List α} (mk : Nat → σ → τ) {body : τ → Option (τ ⊕ ρ)} (g : Nat → α → σ → σ ⊕ ρ) (fin : σ → ρ) (inv : Nat → σ → Prop)
    (h1 : ∀ i x s, l[i]? = some x → inv i s → body (mk i s) = some (match g i x s with | .inl s' => .inl (mk (i + 1) s') | .inr r => .inr r))
    (h2 : ∀ s, inv l.length s → body (mk l.length s) = some (.inr (fin s)))
    (hi : ∀ i x s s', l[i]? = some x → inv i s → g i x s = .inl s' → inv (i + 1) s') :
    ∀ (fu : Nat) (s : σ), inv 0 s → l.length < fu → loopM body fu (mk 0 s) = some (foldS g fin l 0 s) := by
  have key : ∀ (r : List α) (i fu : Nat) (s : σ), l.drop i = r → i ≤ l.length → inv i s → r.length < fu → loopM body fu (mk i s) = some (foldS g fin r i s) := by
    intro r
    induction r with
    | nil =>
      intro i fu s hd hl hv hf
      have hle : l.length ≤ i := List.drop_eq_nil_iff.1 hd
      have : i = l.length := by omega
      subst this
      obtain ⟨n, rfl⟩ : ∃ n, fu = n + 1 := ⟨fu - 1, by simp at hf; omega⟩
      rw [loopM_succ, h2 s hv]
      rfl
    | cons x r ih =>
      intro i fu s hd hl hv hf
      have hlt : i < l.length := by
        rcases Nat.lt_or_ge i l.length with h | h
        · exact h
        · rw [List.drop_eq_nil_of_le h] at hd; cases hd
      have hx : l[i]? = some x := by
        have := congrArg (fun l => l[0]?) hd
        simpa using this
      have hd' : l.drop (i + 1) = r := by rw [← List.drop_drop (i := 1) (j := i), hd]; rfl
      obtain ⟨n, rfl⟩ : ∃ n, fu = n + 1 := ⟨fu - 1, by omega⟩
      rw [loopM_succ, h1 i x s hx hv, bind_some, foldS]
      cases hg : g i x s with
      | inl s' => exact ih (i + 1) n s' hd' (by omega) (hi i x s s' hx hv hg) (by simp at hf; omega)
      | inr q => rfl
  intro fu s hv hf
  exact key l 0 fu s rfl (Nat.zero_le _) hv hf
theorem forT {α σ τ ρ : Type} {body : τ → Option (τ ⊕ ρ)} {fu : Nat} {t0 : τ} (l : List α) (mk : Nat → σ → τ) (g : Nat → α → σ → σ ⊕ ρ) (fin : σ → ρ) (inv : Nat → σ → Prop) (s0 : σ) (ht : mk 0 s0 = t0) (hv : inv 0 s0) (hf : l.length < fu)
    (h1 : ∀ i x s, l[i]? = some x → inv i s → body (mk i s) = some (match g i x s with | .inl s' => .inl (mk (i + 1) s') | .inr r => .inr r))
    (h2 : ∀ s, inv l.length s → body (mk l.length s) = some (.inr (fin s)))
    (hi : ∀ i x s s', l[i]? = some x → inv i s → g i x s = .inl s' → inv (i + 1) s') : loopM body fu t0 = some (foldS g fin l 0 s0) := by
  subst ht
  exact forS mk g fin inv h1 h2 hi fu s0 hv hf
/-- A test of each element. -/
theorem foldS_all {α ρ : Type} (p : α → Bool) (a b : ρ) : ∀ (l : List α) (i : Nat), foldS (fun _ x (_ : Unit) => if p x then .inl () else .inr b) (fun _ => a) l i () = if l.all p then a else b
  | [], i => rfl
  | x :: l, i => by
    rw [foldS]
    cases h : p x
    · simp [h]
    · simp [h, foldS_all p a b l (i + 1)]
theorem mvSteps_eq (k : Nat) (s : Str) (hl : s.length ≤ 2000000) (hk : 2000010 ≤ k) : X.s_mvSteps k s = some (s.all isDir) := by
  obtain ⟨q, rfl⟩ : ∃ q, k = q + 7 := ⟨k - 7, by omega⟩
  unfold X.s_mvSteps
  rw [forT (t0 := 0) s (fun i (_ : Unit) => (i : Int)) (fun _ x (_ : Unit) => if isDir x then Sum.inl () else Sum.inr (Sum.inl false)) (fun _ => Sum.inr ()) (fun _ _ => True) () rfl trivial (by omega) ?_ ?_ ?_, foldS_all]
  · cases s.all isDir <;> rfl
  · intro i x _ hx _
    have hlt : i < s.length := (List.getElem?_eq_some_iff.1 hx).1
    have hd : decide ((i : Int) < (s.length : Int)) = true := by simpa using hlt
    obtain ⟨z, hz, hz2⟩ := mvIndex_eq q x
    simp only [hd, cond_true, getB_of hx, bind_some, hz, hz2]
    cases isDir x
    · rfl
    · simp [wr_of (z := (i : Int) + 1) (by omega) (by omega)]
  · simp
  · intros; trivial
theorem s_mvGood_eq (k : Nat) (m : Move) (hl : m.Steps.length ≤ 2000000) (hk : 2000010 ≤ k) : X.s_mvGood k m = some (gMove m) := by
  unfold X.s_mvGood gMove
  simp only [mvSteps_eq k m.Steps hl hk, bind_some, s_l1In_eq, seq_nil]
  have hd : decide ((m.Steps.length : Int) ≤ 6) = decide (m.Steps.length ≤ 6) := by
    rw [Bool.eq_iff_iff]; simp; omega
  rw [hd]
  cases decide (m.Steps.length ≤ 6)
  · rfl
  cases m.Steps.all isDir
  · rfl
  cases inR m.Repeat 1 3
  · rfl
  cases m.Steps.isEmpty <;> rfl
end Go.Proofs.XC
namespace Go.Proofs.XC
open Go Go.RowKit
/-- A range over 0 .. length. -/
theorem ranN {α σ ρ : Type} {body : Int → σ → Option (σ ⊕ ρ)} {fin : σ → Option ρ} {z : Int} {s0 : σ} (l : List α) (g : Nat → α → σ → σ ⊕ ρ) (f : σ → ρ) (hz : z = (l.length : Int)) (hl : l.length ≤ 9223372036854775807)
    (h1 : ∀ (i : Nat) x s, l[i]? = some x → body (i : Int) s = some (g i x s)) (h2 : ∀ s, fin s = some (f s)) : rangeN body fin z s0 = some (foldS g f l 0 s0) := by
  subst hz
  unfold rangeN
  rw [if_pos (by omega)]
  have key : ∀ (r : List α) (i : Nat) (s : σ), l.drop i = r → i ≤ l.length → rangeM (fun j _ s => body j s) fin (List.range' i r.length) i s = some (foldS g f r i s) := by
    intro r
    induction r with
    | nil => intro i s _ _; simp [rangeM_nil, h2, foldS]
    | cons x r ih =>
      intro i s hd hi
      have hlt : i < l.length := by
        rcases Nat.lt_or_ge i l.length with h | h
        · exact h
        · rw [List.drop_eq_nil_of_le h] at hd; cases hd
      have hx : l[i]? = some x := by
        have := congrArg (fun l => l[0]?) hd
        simpa using this
      have hd' : l.drop (i + 1) = r := by rw [← List.drop_drop (i := 1) (j := i), hd]; rfl
      rw [List.length_cons, List.range'_succ, rangeM_cons, h1 i x s hx, bind_some, foldS]
      cases hg : g i x s with
      | inl s' => exact ih (i + 1) s' hd' (by omega)
      | inr q => rfl
  have := key l 0 s0 rfl (Nat.zero_le _)
  rw [← List.range_eq_range'] at this
  simpa using this
theorem indexByte_dirs (b : UInt8) : decide (Lib.indexByte dirs (((b.toNat : Int)).toNat).toUInt8 < 0) = !(isDir b) := by
  have e : (((b.toNat : Int)).toNat).toUInt8 = b := by
    rw [Int.toNat_natCast]
    exact UInt8.ofNat_toNat
  rw [e]
  cases hd : isDir b with
  | true => rcases isDir_cases hd with h | h | h | h | h | h <;> subst h <;> rfl
  | false =>
    have hn : ∀ c : UInt8, isDir c = true → (c == b) = false := fun c hc => by
      rw [beq_eq_false_iff_ne]
      intro e
      rw [← e, hc] at hd
      cases hd
    simp [dirs, Lib.indexByte, hn 117 rfl, hn 100 rfl, hn 108 rfl, hn 114 rfl, hn 102 rfl, hn 98 rfl]
theorem hasDirs_eq (s : Str) (hl : s.length ≤ 2000000) : X.i_hasOnly s [117, 100, 108, 114, 102, 98] = some (s.all isDir) := by
  unfold X.i_hasOnly
  rw [ranN s (fun _ x (_ : Unit) => if isDir x then Sum.inl () else Sum.inr (Sum.inl false)) (fun _ => Sum.inr ()) rfl (by omega) ?_ (fun _ => rfl), foldS_all]
  · cases s.all isDir <;> rfl
  · intro i x _ hx
    rw [getB_of hx, bind_some]
    unfold X.strings_IndexByte
    rw [bind_some]
    have := indexByte_dirs x
    unfold dirs at this
    rw [this]
    cases isDir x <;> rfl
theorem i_IsMove_eq (m : Move) (hl : m.Steps.length ≤ 2000000) : X.i_IsMove m = some (gMove m) := by
  unfold X.i_IsMove gMove
  simp only [hasDirs_eq m.Steps hl, bind_some, i_within_eq, seq_nil]
  have hd : decide ((m.Steps.length : Int) ≤ 6) = decide (m.Steps.length ≤ 6) := by
    rw [Bool.eq_iff_iff]; simp; omega
  rw [hd]
  cases decide (m.Steps.length ≤ 6)
  · rfl
  cases m.Steps.all isDir
  · rfl
  cases inR m.Repeat 1 3
  · rfl
  cases m.Steps.isEmpty <;> rfl
def gHand (h : Hand) : Bool := gShape h.Shape && (gOrient h.Orient && (gPlace h.Place && gMove h.Move))
def small (h : Hand) : Prop := h.Move.Steps.length ≤ 2000000
theorem i_IsHand_eq (h : Hand) (hl : small h) : X.i_IsHand h = some (gHand h) := by
  unfold X.i_IsHand gHand
  simp only [i_IsShape_eq, i_IsOrient_eq, i_IsPlace_eq, i_IsMove_eq _ hl, bind_some]
  cases gShape h.Shape <;> cases gOrient h.Orient <;> cases gPlace h.Place <;> rfl
theorem s_siHand_eq (k : Nat) (h : Hand) (hl : small h) (hk : 2000010 ≤ k) : X.s_siHand k h = some (gHand h) := by
  obtain ⟨q, rfl⟩ : ∃ q, k = q + 4 := ⟨k - 4, by omega⟩
  unfold X.s_siHand gHand
  simp only [s_shGood_eq, s_orGood_eq, s_plGood_eq, s_mvGood_eq _ _ hl hk, bind_some]
  cases gShape h.Shape <;> cases gOrient h.Orient <;> cases gPlace h.Place <;> rfl

/-! ### All steps -/
def allSteps (m : Move) : Str := Lib.repeatL m.Steps m.Repeat.toNat
theorem gMove_iff {m : Move} : gMove m = true ↔ m.Steps.length ≤ 6 ∧ m.Steps.all isDir = true ∧ (1 ≤ m.Repeat ∧ m.Repeat ≤ 3) ∧ (m.Steps ≠ [] ∨ m.Repeat = 1) := by
  unfold gMove
  simp [inR]
theorem repeat_eq {s : Str} {n : Int} (h1 : 0 ≤ n) (h2 : n ≤ 2000000) (hs : s.length ≤ 2000000) : X.strings_Repeat s n = some (Lib.repeatL s n.toNat) := by
  unfold X.strings_Repeat
  have hb : s.length * n.toNat ≤ 2000000 * 2000000 := Nat.mul_le_mul hs (by omega)
  rw [if_pos ⟨h1, by omega, by omega⟩]
theorem i_Move_all_eq {m : Move} (h : gMove m = true) : X.i_Move_all m = some (allSteps m) := by
  rw [gMove_iff] at h
  unfold X.i_Move_all
  rw [repeat_eq (by omega) (by omega) (by omega)]
  first | done | rfl
theorem repeatL_comm (s : Str) : ∀ n, Lib.repeatL s n ++ s = s ++ Lib.repeatL s n
  | 0 => by simp [Lib.repeatL]
  | n + 1 => by rw [Lib.repeatL, List.append_assoc, repeatL_comm s n]
theorem s_mvTimes_eq {s : Str} (hs : s.length ≤ 2000000) : ∀ (n k : Nat), n ≤ 2000000 → n < k → X.s_mvTimes k s (n : Int) = some (Lib.repeatL s n) := by
  intro n k hn hk
  unfold X.s_mvTimes
  have key : ∀ (j i k : Nat), i + j = n → j < k → loopM (fun (⟨n1, t2⟩ : Int × Str) => (bif decide (n1 > 0) then (Option.bind (catS t2 s) fun y4_2 => some (.inl ((wr (n1 - 1)), y4_2))) else some (.inr t2))) k ((j : Int), Lib.repeatL s i) = some (Lib.repeatL s n) := by
    intro j
    induction j with
    | zero =>
      intro i k hi hk
      obtain ⟨q, rfl⟩ : ∃ q, k = q + 1 := ⟨k - 1, by omega⟩
      rw [loopM_succ]
      have : i = n := by omega
      subst this
      simp [bind_some]
    | succ j ih =>
      intro i k hi hk
      obtain ⟨q, rfl⟩ : ∃ q, k = q + 1 := ⟨k - 1, by omega⟩
      rw [loopM_succ]
      have hpos : decide (((j + 1 : Nat) : Int) > 0) = true := by simp
      have hc : catS (Lib.repeatL s i) s = some (Lib.repeatL s (i + 1)) := by
        unfold catS
        rw [if_pos, repeatL_comm]
        · rfl
        · rw [Lib.repeatL_length]
          have : i * s.length ≤ 2000000 * 2000000 := Nat.mul_le_mul (by omega) hs
          omega
      simp only [hpos, cond_true, hc, bind_some]
      rw [wr_of (by omega) (by omega), show ((j + 1 : Nat) : Int) - 1 = (j : Int) by omega]
      exact ih (i + 1) q (by omega) (by omega)
  have := key n 0 k (by omega) hk
  rw [show (Lib.repeatL s 0) = [] from rfl] at this
  rw [this]
  rfl
theorem s_mvAll_eq {m : Move} {k : Nat} (h : gMove m = true) (hk : 4 ≤ k) : X.s_mvAll k m = some (allSteps m) := by
  rw [gMove_iff] at h
  unfold X.s_mvAll allSteps
  have := s_mvTimes_eq (s := m.Steps) (by omega) m.Repeat.toNat k (by omega) (by omega)
  rw [show ((m.Repeat.toNat : Nat) : Int) = m.Repeat by omega] at this
  rw [this]
  rfl
end Go.Proofs.XC
namespace Go.Proofs.XC
open Go Go.RowKit
def dig (z : Int) : UInt8 := UInt8.ofNat (48 + z.toNat)
theorem itoa_eq {z : Int} (h0 : 0 ≤ z) (h1 : z < 10) : X.strconv_Itoa z = some [dig z] := by
  unfold X.strconv_Itoa
  rw [if_pos ⟨h0, by omega⟩, Lib.decDigits, dif_pos (by omega)]
  rfl
theorem catS_of {a b : Str} (h : a.length + b.length ≤ 9223372036854775807) : catS a b = some (a ++ b) := by
  unfold catS
  rw [if_pos h]
/-- A shape's text. -/
def tShape (s : Shape) : Str := [dig s.Thumb, dig s.Index, dig s.Middle, dig s.Ring, dig s.Little] ++ (if s.Spread then [115] else [])
theorem gShape_iff {s : Shape} : gShape s = true ↔ (0 ≤ s.Thumb ∧ s.Thumb ≤ 2) ∧ (0 ≤ s.Index ∧ s.Index ≤ 2) ∧ (0 ≤ s.Middle ∧ s.Middle ≤ 2) ∧ (0 ≤ s.Ring ∧ s.Ring ≤ 2) ∧ (0 ≤ s.Little ∧ s.Little ≤ 2) ∧ (s.Spread = false ∨ wide s = true) := by
  unfold gShape
  simp only [inR, Bool.and_eq_true, decide_eq_true_eq, Bool.or_eq_true, Bool.not_eq_true']
  constructor
  · rintro ⟨⟨a, b, c, d, e⟩, f⟩; exact ⟨a, b, c, d, e, f⟩
  · rintro ⟨a, b, c, d, e, f⟩; exact ⟨⟨a, b, c, d, e⟩, f⟩
theorem i_Shape_text_eq {s : Shape} (h : gShape s = true) : X.i_Shape_text s = some (tShape s) := by
  rw [gShape_iff] at h
  unfold X.i_Shape_text X.i_Shape_bends tShape
  simp only [itoa_eq (z := s.Thumb) (by omega) (by omega), bind_some, rangeM_cons, rangeM_nil, itoa_eq (z := s.Index) (by omega) (by omega), itoa_eq (z := s.Middle) (by omega) (by omega), itoa_eq (z := s.Ring) (by omega) (by omega), itoa_eq (z := s.Little) (by omega) (by omega)]
  cases s.Spread <;> rfl
def plainL : List Shape := [⟨0, 0, 0, 0, 0, false⟩, ⟨0, 0, 0, 0, 0, true⟩, ⟨2, 2, 2, 2, 2, false⟩, ⟨1, 0, 0, 0, 0, false⟩, ⟨1, 0, 2, 2, 2, false⟩, ⟨0, 0, 2, 2, 2, false⟩]
theorem parse_eq (k : Nat) (s : Shape) (hp : s ∈ plainL) : X.i_ParseShape (k + 6) (tShape s) = some (s, true) := by
  have key : gShape s = true ∧ X.i_ParseShape (k + 6) (tShape s) = Option.bind (X.i_Shape_text s) (fun v => bif (!seq v (tShape s)) then some (zShape, false) else some (s, true)) := by
    simp only [plainL, List.mem_cons, List.not_mem_nil, or_false] at hp
    rcases hp with hp | hp | hp | hp | hp | hp <;> subst hp <;> exact ⟨rfl, rfl⟩
  obtain ⟨h1, h2⟩ := key
  rw [h2, i_Shape_text_eq h1, bind_some, seq_eq]
  simp
theorem i_PlainShapes_eq (k : Nat) : X.i_PlainShapes (k + 6) = some plainL := by
  have h0 := parse_eq k ⟨0, 0, 0, 0, 0, false⟩ (by simp [plainL])
  have h1 := parse_eq k ⟨0, 0, 0, 0, 0, true⟩ (by simp [plainL])
  have h2 := parse_eq k ⟨2, 2, 2, 2, 2, false⟩ (by simp [plainL])
  have h3 := parse_eq k ⟨1, 0, 0, 0, 0, false⟩ (by simp [plainL])
  have h4 := parse_eq k ⟨1, 0, 2, 2, 2, false⟩ (by simp [plainL])
  have h5 := parse_eq k ⟨0, 0, 2, 2, 2, false⟩ (by simp [plainL])
  rw [show tShape ⟨0, 0, 0, 0, 0, false⟩ = [48, 48, 48, 48, 48] from rfl] at h0
  rw [show tShape ⟨0, 0, 0, 0, 0, true⟩ = [48, 48, 48, 48, 48, 115] from rfl] at h1
  rw [show tShape ⟨2, 2, 2, 2, 2, false⟩ = [50, 50, 50, 50, 50] from rfl] at h2
  rw [show tShape ⟨1, 0, 0, 0, 0, false⟩ = [49, 48, 48, 48, 48] from rfl] at h3
  rw [show tShape ⟨1, 0, 2, 2, 2, false⟩ = [49, 48, 50, 50, 50] from rfl] at h4
  rw [show tShape ⟨0, 0, 2, 2, 2, false⟩ = [48, 48, 50, 50, 50] from rfl] at h5
  unfold X.i_PlainShapes
  simp only [rangeM_cons, rangeM_nil, h0, h1, h2, h3, h4, h5, bind_some]
  rfl
theorem s_siPlain_eq (k : Nat) : X.s_siPlain (k + 6) = some plainL := by rfl
theorem qShape_iff (a b : Shape) : qShape a b = decide (a = b) := by
  unfold qShape
  cases a
  cases b
  rw [Bool.eq_iff_iff]
  simp
theorem qOrient_iff (a b : Orient) : qOrient a b = decide (a = b) := by
  unfold qOrient
  cases a
  cases b
  rw [Bool.eq_iff_iff]
  simp
theorem s_find_eq (o : Shape) : ∀ (l : List Shape) (j : Nat), rangeM (fun (j4 : Int) (x5 : Shape) (_ : Unit) => (bif (qShape x5 o) then some (.inr (Sum.inl (0 : Int))) else some (.inl ()))) (fun _ => some (Sum.inr ())) l j () = some (if o ∈ l then Sum.inl 0 else Sum.inr ())
  | [], j => by simp [rangeM_nil]
  | x :: l, j => by
    rw [rangeM_cons, qShape_iff]
    by_cases h : x = o
    · subst h; simp [bind_some]
    · have h' : ¬ o = x := fun e => h e.symm
      simp only [h, decide_false, cond_false, bind_some, List.mem_cons, h', false_or]
      exact s_find_eq o l (j + 1)
theorem i_contains_eq (o : Shape) (l : List Shape) : X.slices_Contains_i_Shape_i_Shape l o = some (decide (o ∈ l)) := by
  unfold X.slices_Contains_i_Shape_i_Shape X.slices_Index_i_Shape_i_Shape
  have h := anyF_eq (fun x => qShape o x) (fun x => some (qShape o x)) l (fun x _ => rfl)
  simp only [bind_some] at h
  refine Eq.trans h ?_
  congr 1
  rw [Bool.eq_iff_iff]
  simp [qShape_iff]
/-- A mirrored orientation. -/
def mirD (d : Int) : Int := if d = 2 then 3 else if d = 3 then 2 else d
def mirO (o : Orient) : Orient := ⟨mirD o.Palm, mirD o.Fingers⟩
theorem i_mirD_eq (d : Int) : X.i_Orient_mirrored_1 d = some (mirD d) := by
  unfold X.i_Orient_mirrored_1 mirD
  by_cases h : d = 2
  · subst h; rfl
  · by_cases h3 : d = 3
    · subst h3; rfl
    · rw [beq_eq_false_iff_ne.2 h, beq_eq_false_iff_ne.2 h3]; simp [h, h3]
theorem i_mirO_eq (o : Orient) : X.i_Orient_mirrored o = some (mirO o) := by
  unfold X.i_Orient_mirrored
  simp only [i_mirD_eq, bind_some]
  rfl
theorem s_mirD_eq (d : Int) : X.s_orSwap d = some (mirD d) := by
  unfold X.s_orSwap mirD
  by_cases h : d = 2
  · subst h; rfl
  · by_cases h3 : d = 3
    · subst h3; rfl
    · rw [beq_eq_false_iff_ne.2 h, beq_eq_false_iff_ne.2 h3]; simp [h, h3]
theorem s_mirO_eq (o : Orient) : X.s_orMirror o = some (mirO o) := by
  unfold X.s_orMirror
  simp only [s_mirD_eq, bind_some]
  rfl
theorem mirD_mirD (d : Int) : mirD (mirD d) = d := by
  unfold mirD
  repeat' split
  all_goals omega
theorem mirO_mirO (o : Orient) : mirO (mirO o) = o := by
  unfold mirO
  simp [mirD_mirD]
/-- A mirrored movement. -/
def mirM (m : Move) : Move := ⟨m.Steps.map swapLR, m.Repeat⟩
theorem isDir_swap (b : UInt8) : isDir (swapLR b) = isDir b := by
  unfold swapLR
  split
  · subst_vars; rfl
  · split
    · subst_vars; rfl
    · rfl
theorem gMove_mir {m : Move} (h : gMove m = true) : gMove (mirM m) = true := by
  rw [gMove_iff] at h ⊢
  obtain ⟨h1, h2, h3, h4⟩ := h
  refine ⟨by simpa [mirM] using h1, ?_, h3, ?_⟩
  · rw [List.all_eq_true] at h2 ⊢
    intro b hb
    obtain ⟨c, hc, rfl⟩ := List.mem_map.1 hb
    rw [isDir_swap]
    exact h2 c hc
  · rcases h4 with h4 | h4
    · left
      simpa [mirM] using h4
    · exact .inr h4
theorem s_mvMirror_eq {m : Move} {k : Nat} (hl : m.Steps.length ≤ 2000000) (hk : m.Steps.length < k) : X.s_mvMirror k m = some (mirM m) := by
  unfold X.s_mvMirror
  rw [forT (t0 := (([] : Str), (0 : Int))) m.Steps (fun i (t : Str) => (t, (i : Int))) (fun _ x t => Sum.inl (t ++ [swapLR x])) (fun t => t) (fun i t => t.length = i) [] rfl rfl hk ?_ ?_ ?_]
  · have key : ∀ (l : Str) (i : Nat) (t : Str), foldS (fun _ (x : UInt8) (t : Str) => (Sum.inl (t ++ [swapLR x]) : Str ⊕ Str)) (fun t => t) l i t = t ++ l.map swapLR := by
      intro l
      induction l with
      | nil => intro i t; simp [foldS]
      | cons x l ih => intro i t; rw [foldS]; simp [ih]
    rw [key]
    rfl
  · intro i x t hx ht
    have hlt : i < m.Steps.length := (List.getElem?_eq_some_iff.1 hx).1
    have hd : decide ((i : Int) < (m.Steps.length : Int)) = true := by simpa using hlt
    have hw : wr ((i : Int) + 1) = ((i + 1 : Nat) : Int) := by rw [wr_of (by omega) (by omega)]; rfl
    have hcut : cutS m.Steps (i : Int) ((i + 1 : Nat) : Int) = some [x] := by
      unfold cutS
      rw [if_pos ⟨by omega, by omega, by omega⟩]
      have h1 : (((i + 1 : Nat) : Int) - (i : Int)).toNat = 1 := by omega
      rw [h1, Int.toNat_natCast, List.take_one]
      have h2 : (m.Steps.drop i).head? = some x := by rw [List.head?_drop]; exact hx
      rw [h2]
      rfl
    simp only [hd, cond_true, getB_of hx, bind_some, hw, hcut]
    unfold swapLR
    have hc : ∀ c : Str, c.length ≤ 1 → catS t c = some (t ++ c) := fun c hc => catS_of (by omega)
    by_cases h1 : x = 108
    · subst h1
      simp [hc, bind_some]
    · have e1 : ((x.toNat : Int) == 108) = false := by
        have := ne_byte (b := x) (c := 108) (by omega) h1
        rw [beq_eq_false_iff_ne] at this ⊢
        omega
      by_cases h2 : x = 114
      · subst h2
        simp [hc, bind_some]
      · have e2 : ((x.toNat : Int) == 114) = false := by
          have := ne_byte (b := x) (c := 114) (by omega) h2
          rw [beq_eq_false_iff_ne] at this ⊢
          omega
        simp [e1, e2, hc, bind_some, h1, h2]
  · intro t ht
    simp
  · intro i x t t' _ ht hg
    injection hg with hg
    subst hg
    simp [ht]
end Go.Proofs.XC
namespace Go.Proofs.XC
open Go Go.RowKit
def gKeep (a b : Hand) : Bool := if b.Move.Steps = [] then decide (b.Shape = a.Shape ∨ b.Shape ∈ plainL) else
  decide (a.Move.Steps ≠ [] ∧ a.Shape = b.Shape ∧ (b.Orient = a.Orient ∨ b.Orient = mirO a.Orient) ∧ (allSteps b.Move = allSteps a.Move ∨ allSteps b.Move = allSteps (mirM a.Move)))
theorem moves_eq (h : Hand) : X.i_Hand_moves h = some (!h.Move.Steps.isEmpty) := by
  unfold X.i_Hand_moves
  rw [seq_nil]
theorem isEmpty_iff' (s : Str) : s.isEmpty = decide (s = []) := by cases s <;> simp
theorem i_mirM_eq {m : Move} (h : gMove m = true) : X.i_Move_mirrored m = some (mirM m) := by
  unfold X.i_Move_mirrored
  rw [if_pos (by have := (gMove_iff.1 h).1; omega)]
  rfl
theorem i_keepRules_eq (k : Nat) {a b : Hand} (ha : gMove a.Move = true) (hb : gMove b.Move = true) : X.i_keepRules (k + 6) a b = some (gKeep a b) := by
  unfold X.i_keepRules gKeep
  simp only [moves_eq, i_mirO_eq, i_mirM_eq ha, i_Move_all_eq ha, i_Move_all_eq hb, i_Move_all_eq (gMove_mir ha), bind_some, i_PlainShapes_eq, i_contains_eq, qShape_iff, qOrient_iff, seq_eq, isEmpty_iff']
  by_cases h1 : b.Move.Steps = []
  · by_cases h2 : b.Shape = a.Shape
    · simp [h1, h2]
    · simp [h1, h2]
  · by_cases h2 : b.Orient = a.Orient <;> by_cases h3 : allSteps b.Move = allSteps a.Move <;> by_cases h4 : a.Move.Steps = [] <;> by_cases h5 : a.Shape = b.Shape <;> by_cases h6 : b.Orient = mirO a.Orient <;> simp [h1, h2, h3, h4, h5, h6]
def vBroken (a b : Hand) : Int := if b.Move.Steps = [] then (if a.Shape = b.Shape ∨ b.Shape ∈ plainL then 0 else 4) else
  if a.Move.Steps = [] then 3 else if a.Shape ≠ b.Shape then 1 else if a.Orient ≠ b.Orient ∧ a.Orient ≠ mirO b.Orient then 2 else
  if allSteps a.Move ≠ allSteps b.Move ∧ allSteps (mirM a.Move) ≠ allSteps b.Move then 3 else 0
theorem s_siBroken_eq {k : Nat} {a b : Hand} (ha : gMove a.Move = true) (hb : gMove b.Move = true) (hk : 10 ≤ k) : X.s_siBroken k a b = some (vBroken a b) := by
  obtain ⟨q, rfl⟩ : ∃ q, k = q + 6 := ⟨k - 6, by omega⟩
  have hl : a.Move.Steps.length ≤ 6 := (gMove_iff.1 ha).1
  unfold X.s_siBroken vBroken
  simp only [s_mirO_eq, s_mvAll_eq ha (show 4 ≤ q + 6 by omega), s_mvAll_eq hb (show 4 ≤ q + 6 by omega), s_mvMirror_eq (m := a.Move) (k := q + 6) (by omega) (by omega), s_mvAll_eq (gMove_mir ha) (show 4 ≤ q + 6 by omega), bind_some, s_siPlain_eq, s_find_eq, qShape_iff, qOrient_iff, seq_eq]
  by_cases h1 : b.Move.Steps = []
  · by_cases h2 : a.Shape = b.Shape
    · simp [h1, h2]
    · have hf := s_find_eq b.Shape plainL 0
      simp only [qShape_iff] at hf
      by_cases h3 : b.Shape ∈ plainL <;> simp [h1, h2, h3, orEl, hf]
  · by_cases h2 : a.Move.Steps = [] <;> by_cases h3 : a.Shape = b.Shape <;> by_cases h4 : a.Orient = b.Orient <;> by_cases h5 : a.Orient = mirO b.Orient <;> by_cases h6 : allSteps a.Move = allSteps b.Move <;> by_cases h7 : allSteps (mirM a.Move) = allSteps b.Move <;> simp [h1, h2, h3, h4, h5, h6, h7]
theorem mirO_eq_iff (a b : Orient) : a = mirO b ↔ b = mirO a := by
  constructor
  · intro h; rw [h, mirO_mirO]
  · intro h; rw [h, mirO_mirO]
theorem vBroken_iff (a b : Hand) : (vBroken a b == 0) = gKeep a b := by
  unfold vBroken gKeep
  have e1 : (b.Shape = a.Shape) ↔ (a.Shape = b.Shape) := eq_comm
  have e2 : (b.Orient = a.Orient) ↔ (a.Orient = b.Orient) := eq_comm
  have e3 : (b.Orient = mirO a.Orient) ↔ (a.Orient = mirO b.Orient) := (mirO_eq_iff _ _)
  have e4 : (allSteps b.Move = allSteps a.Move) ↔ (allSteps a.Move = allSteps b.Move) := eq_comm
  have e5 : (allSteps b.Move = allSteps (mirM a.Move)) ↔ (allSteps (mirM a.Move) = allSteps b.Move) := eq_comm
  simp only [e1, e2, e3, e4, e5]
  by_cases h1 : b.Move.Steps = []
  · by_cases h2 : a.Shape = b.Shape ∨ b.Shape ∈ plainL <;> simp [h1, h2]
  · by_cases h2 : a.Move.Steps = [] <;> by_cases h3 : a.Shape = b.Shape <;> by_cases h4 : a.Orient = b.Orient <;> by_cases h5 : a.Orient = mirO b.Orient <;> by_cases h6 : allSteps a.Move = allSteps b.Move <;> by_cases h7 : allSteps (mirM a.Move) = allSteps b.Move <;> simp [h1, h2, h3, h4, h5, h6, h7]
theorem qMove_iff (a b : Move) : qMove a b = decide (a = b) := by
  unfold qMove
  cases a
  cases b
  rw [seq_eq, Bool.eq_iff_iff]
  simp
theorem qPlace_iff (a b : Place) : qPlace a b = decide (a = b) := by
  unfold qPlace
  cases a
  cases b
  rw [Bool.eq_iff_iff]
  simp
theorem qHand_iff (a b : Hand) : qHand a b = decide (a = b) := by
  unfold qHand
  rw [qShape_iff, qOrient_iff, qPlace_iff, qMove_iff]
  cases a
  cases b
  rw [Bool.eq_iff_iff]
  simp
def gSign (s : Sign) : Bool := gHand s.Main && (if s.Two then gHand s.Other && gKeep s.Main s.Other else decide (s.Other = zHand))
def smallS (s : Sign) : Prop := small s.Main ∧ small s.Other
theorem gHand_iff {h : Hand} : gHand h = true ↔ gShape h.Shape = true ∧ gOrient h.Orient = true ∧ gPlace h.Place = true ∧ gMove h.Move = true := by
  unfold gHand
  simp
theorem i_IsSign_eq {k : Nat} {s : Sign} (hs : smallS s) (hk : 10 ≤ k) : X.i_IsSign k s = some (gSign s) := by
  obtain ⟨q, rfl⟩ : ∃ q, k = q + 6 := ⟨k - 6, by omega⟩
  unfold X.i_IsSign gSign
  simp only [i_IsHand_eq _ hs.1, i_IsHand_eq _ hs.2, bind_some, qHand_iff]
  cases h1 : gHand s.Main
  · simp
  cases h2 : s.Two
  · simp
  cases h3 : gHand s.Other
  · simp
  rw [i_keepRules_eq q (gHand_iff.1 h1).2.2.2 (gHand_iff.1 h3).2.2.2]
  simp [bind_some]
theorem s_siGood_eq {k : Nat} {s : Sign} (hs : smallS s) (hk : 2000010 ≤ k) : X.s_siGood k s = some (gSign s) := by
  unfold X.s_siGood gSign
  simp only [s_siHand_eq k _ hs.1 hk, s_siHand_eq k _ hs.2 hk, bind_some, qHand_iff]
  cases h1 : gHand s.Main
  · simp
  cases h2 : s.Two
  · simp
  cases h3 : gHand s.Other
  · simp
  rw [s_siBroken_eq (gHand_iff.1 h1).2.2.2 (gHand_iff.1 h3).2.2.2 (by omega), bind_some, vBroken_iff]
  simp
end Go.Proofs.XC
namespace Go.Proofs.XC
open Go Go.RowKit
theorem gPlace_iff {p : Place} : gPlace p = true ↔ (0 ≤ p.Region ∧ p.Region ≤ 9) ∧ (-1 ≤ p.Side ∧ p.Side ≤ 1) ∧ (p.Contact = false ∨ p.Region ≠ 0) := by
  unfold gPlace
  simp [inR, and_assoc]
end Go.Proofs.XC
namespace Go.Proofs.XC
open Go Go.RowKit
/-! ### The normal form of a movement -/
def chk (s : Str) (n t : Nat) : Prop := Lib.repeatL (s.take n) t = s
instance (s : Str) (n t : Nat) : Decidable (chk s n t) := inferInstanceAs (Decidable (_ = _))
def okR (s : Str) (r : Nat) : Prop := s.length / r ≤ 6 ∧ chk s (s.length / r) r
instance (s : Str) (r : Nat) : Decidable (okR s r) := inferInstanceAs (Decidable (_ ∧ _))
end Go.Proofs.XC
namespace Go.Proofs.XC
open Go Go.RowKit
theorem gSign_main {s : Sign} (g : gSign s = true) : gHand s.Main = true := by
  unfold gSign at g
  simp only [Bool.and_eq_true] at g
  exact g.1
end Go.Proofs.XC
namespace Go.Proofs.XC
open Go Go.RowKit
/-! ### Sizes -/
/-- The size of a text fits. -/
def fitS (s : Sign) : Prop := s.Main.Move.Steps.length ≤ 9223372036854775807 ∧ s.Other.Move.Steps.length ≤ 9223372036854775807
theorem szMove_eq {m : Move} {z : Int} (h : m.Steps.length ≤ 9223372036854775807) (h0 : 0 ≤ z) (h1 : z ≤ 9223372036854775807) : X.l_szMove m z = some (if z < m.Steps.length then -1 else z - m.Steps.length) := by
  unfold X.l_szMove
  rw [wr_of (by omega) (by omega)]
  by_cases hz : z < m.Steps.length
  · have : decide (z - (m.Steps.length : Int) < 0) = true := by simp; omega
    rw [this]
    simp [hz]
  · have : decide (z - (m.Steps.length : Int) < 0) = false := by simp; omega
    rw [this]
    simp [hz]
theorem szHand_eq {h : Hand} {z : Int} (hl : h.Move.Steps.length ≤ 9223372036854775807) (h0 : 0 ≤ z) (h1 : z ≤ 9223372036854775807) : X.l_szHand h z = some (if z < h.Move.Steps.length then -1 else z - h.Move.Steps.length) := by
  unfold X.l_szHand
  rw [szMove_eq hl h0 h1, bind_some]
  by_cases hz : z < h.Move.Steps.length
  · simp [hz]
  · have : decide (z - (h.Move.Steps.length : Int) < 0) = false := by simp; omega
    simp only [hz, if_false, this, cond_false]
/-- Too large, or small, with what is left. -/
theorem szSign_eq {s : Sign} {z : Int} (hl : fitS s) (h0 : 0 ≤ z) (h1 : z ≤ 1048576) : ∃ r, X.l_szSign s z = some r ∧ (r < 0 ∨ (smallS s ∧ 0 ≤ r ∧ r ≤ z)) := by
  obtain ⟨g1, g2⟩ := hl
  unfold X.l_szSign
  rw [szHand_eq g1 h0 (by omega), bind_some]
  by_cases hz : z < s.Main.Move.Steps.length
  · refine ⟨-1, ?_, .inl (by omega)⟩
    simp [hz]
  · have : decide (z - (s.Main.Move.Steps.length : Int) < 0) = false := by simp; omega
    simp only [hz, if_false, this, cond_false]
    rw [szHand_eq g2 (by omega) (by omega), bind_some]
    by_cases hz2 : z - s.Main.Move.Steps.length < s.Other.Move.Steps.length
    · refine ⟨-1, ?_, .inl (by omega)⟩
      simp [hz2]
    · have h3 : decide (z - (s.Main.Move.Steps.length : Int) - (s.Other.Move.Steps.length : Int) < 0) = false := by simp; omega
      refine ⟨z - s.Main.Move.Steps.length - s.Other.Move.Steps.length, by simp only [hz2, if_false, h3, cond_false], .inr ⟨⟨?_, ?_⟩, by omega, by omega⟩⟩
      · unfold small; omega
      · unfold small; omega
theorem toSign_eq (s : Sign) : X.l_toSign s = some s := rfl

/-! ### PatternOf -/
theorem beq_dec (a b : Int) : (a == b) = decide (a = b) := by rw [Bool.eq_iff_iff]; simp
end Go.Proofs.XC
namespace Go.Proofs.XC
open Go Go.RowKit
/-! ### Fields compared one by one -/
theorem bnot_beq (a b : Bool) : (!(a == b)) = !(decide (a = b)) := by cases a <;> cases b <;> rfl
theorem eqShape_eq (a b : Shape) : X.l_eqShape a b = some (decide (a = b)) := by
  unfold X.l_eqShape
  simp only [bne, beq_dec, bnot_beq]
  obtain ⟨a1, a2, a3, a4, a5, a6⟩ := a
  obtain ⟨b1, b2, b3, b4, b5, b6⟩ := b
  simp only [Shape.mk.injEq]
  by_cases h1 : a1 = b1 <;> by_cases h2 : a2 = b2 <;> by_cases h3 : a3 = b3 <;> by_cases h4 : a4 = b4 <;> by_cases h5 : a5 = b5 <;> by_cases h6 : a6 = b6 <;> simp [h1, h2, h3, h4, h5, h6]
theorem eqOrient_eq (a b : Orient) : X.l_eqOrient a b = some (decide (a = b)) := by
  unfold X.l_eqOrient
  simp only [bne, beq_dec, bnot_beq]
  obtain ⟨a1, a2⟩ := a
  obtain ⟨b1, b2⟩ := b
  simp only [Orient.mk.injEq]
  by_cases h1 : a1 = b1 <;> by_cases h2 : a2 = b2 <;> simp [h1, h2]
theorem eqPlace_eq (a b : Place) : X.l_eqPlace a b = some (decide (a = b)) := by
  unfold X.l_eqPlace
  simp only [bne, beq_dec, bnot_beq]
  obtain ⟨a1, a2, a3⟩ := a
  obtain ⟨b1, b2, b3⟩ := b
  simp only [Place.mk.injEq]
  by_cases h1 : a1 = b1 <;> by_cases h2 : a2 = b2 <;> by_cases h3 : a3 = b3 <;> simp [h1, h2, h3]
theorem eqMove_eq (a b : Move) : X.l_eqMove a b = some (decide (a = b)) := by
  unfold X.l_eqMove
  simp only [bne, beq_dec, bnot_beq, seq_eq]
  obtain ⟨a1, a2⟩ := a
  obtain ⟨b1, b2⟩ := b
  simp only [Move.mk.injEq]
  by_cases h1 : a1 = b1 <;> by_cases h2 : a2 = b2 <;> simp [h1, h2]
theorem eqHand_eq (a b : Hand) : X.l_eqHand a b = some (decide (a = b)) := by
  unfold X.l_eqHand
  simp only [eqShape_eq, eqOrient_eq, eqPlace_eq, eqMove_eq, bind_some]
  obtain ⟨a1, a2, a3, a4⟩ := a
  obtain ⟨b1, b2, b3, b4⟩ := b
  simp only [Hand.mk.injEq]
  by_cases h1 : a1 = b1 <;> by_cases h2 : a2 = b2 <;> by_cases h3 : a3 = b3 <;> by_cases h4 : a4 = b4 <;> simp [h1, h2, h3, h4]
theorem eqSign_eq (a b : Sign) : X.l_eqSign a b = some (decide (a = b)) := by
  unfold X.l_eqSign
  simp only [eqHand_eq, bnot_beq, bind_some]
  obtain ⟨a1, a2, a3⟩ := a
  obtain ⟨b1, b2, b3⟩ := b
  simp only [Sign.mk.injEq]
  by_cases h1 : a1 = b1 <;> by_cases h2 : a2 = b2 <;> by_cases h3 : a3 = b3 <;> simp [h1, h2, h3]
theorem fitS_of {s : Sign} (h : okSign s) : fitS s := ⟨h.1.2.2.2.1, h.2.2.2.2.2.1⟩

/-! ### NormalSign -/
/-! ### CompareSigns -/
end Go.Proofs.XC
