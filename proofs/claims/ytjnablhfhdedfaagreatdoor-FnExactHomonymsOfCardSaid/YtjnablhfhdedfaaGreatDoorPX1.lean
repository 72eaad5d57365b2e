/- Plain laws of the plain functions: no program, no memory. By AI agents; no person has read it. -/
import Derived.Test.YtjnablhfhdedfaaGreatDoorX
set_option linter.unusedVariables false
set_option linter.unusedSimpArgs false
set_option maxRecDepth 100000
set_option maxHeartbeats 40000000
namespace Go.Proofs.XC
open Go Go.RowKit

/-! ### Words -/
theorem wr_of {z : Int} (h1 : -9223372036854775808 ≤ z) (h2 : z ≤ 9223372036854775807) : wr z = z := by
  show IntKind.i64.wrap z = z
  rw [IntKind.wrap_i64]
  omega
theorem bind_some {α β : Type} (a : α) (f : α → Option β) : Option.bind (some a) f = f a := rfl
theorem loopM_succ {σ ρ : Type} (body : σ → Option (σ ⊕ ρ)) (n : Nat) (s : σ) : loopM body (n + 1) s = (body s).bind fun o => match o with | .inl s' => loopM body n s' | .inr r => some r := rfl
theorem orEl_inl {ρ σ β : Type} (r : ρ) (G : ρ → Option β) (F : σ → Option β) : orEl (some (.inl r)) G F = G r := rfl
theorem orEl_inr {ρ σ β : Type} (s : σ) (G : ρ → Option β) (F : σ → Option β) : orEl (some (.inr s)) G F = F s := rfl
theorem rangeM_nil {α σ ρ : Type} (body : Int → α → σ → Option (σ ⊕ ρ)) (fin : σ → Option ρ) (j : Nat) (s : σ) : rangeM body fin [] j s = fin s := rfl
theorem rangeM_cons {α σ ρ : Type} (body : Int → α → σ → Option (σ ⊕ ρ)) (fin : σ → Option ρ) (x : α) (l : List α) (j : Nat) (s : σ) : rangeM body fin (x :: l) j s = (body j x s).bind fun o => match o with | .inl s' => rangeM body fin l (j + 1) s' | .inr r => some r := rfl
def inR (x a b : Int) : Bool := decide (a ≤ x) && decide (x ≤ b)
theorem inR_iff {x a b : Int} : inR x a b = true ↔ a ≤ x ∧ x ≤ b := by simp [inR]
theorem i_within_eq (x a b : Int) : X.i_within x a b = some (inR x a b) := by
  unfold X.i_within inR
  by_cases h : a ≤ x <;> simp [h]
theorem s_l1In_eq (x a b : Int) : X.s_l1In x a b = some (inR x a b) := i_within_eq x a b
/-- A search. -/
theorem find_eq {α : Type} (p : α → Bool) (F : α → Option Bool) : ∀ (l : List α) (j : Nat), (∀ x ∈ l, F x = some (p x)) →
    rangeM (fun (j2 : Int) (x3 : α) (_ : Unit) => (Option.bind (F x3) fun v => (bif v then some (.inr (Sum.inl j2)) else some (.inl ())))) (fun _ => some (Sum.inr ())) l j () = some (match l.findIdx? p with | some i => .inl ((j + i : Nat) : Int) | none => .inr ())
  | [], j, _ => rfl
  | x :: l, j, h => by
    rw [rangeM_cons, h x List.mem_cons_self]
    simp only [bind_some, List.findIdx?_cons]
    cases hp : p x with
    | true => simp [bind_some]
    | false =>
      simp only [cond_false, bind_some, Bool.false_eq_true, if_false]
      rw [find_eq p F l (j + 1) (fun y hy => h y (List.mem_cons_of_mem _ hy))]
      cases l.findIdx? p with
      | none => rfl
      | some i =>
        simp only [Option.map_some]
        congr 2
        omega
theorem anyF_eq {α : Type} (p : α → Bool) (F : α → Option Bool) (l : List α) (h : ∀ x ∈ l, F x = some (p x)) :
    (Option.bind (orEl (rangeM (fun (j2 : Int) (x3 : α) (_ : Unit) => (Option.bind (F x3) fun v => (bif v then some (.inr (Sum.inl j2)) else some (.inl ())))) (fun _ => some (Sum.inr ())) l 0 ()) (fun r => some r) (fun _ => some (-1))) fun v => some (decide (v ≥ 0))) = some (l.any p) := by
  rw [find_eq p F l 0 h]
  cases hf : l.findIdx? p with
  | none =>
    rw [List.findIdx?_eq_none_iff] at hf
    have : l.any p = false := by
      rw [List.any_eq_false]
      intro x hx
      simp [hf x hx]
    simp [orEl, this]
  | some i =>
    have : l.any p = true := by
      rw [List.any_eq_true]
      obtain ⟨h1, h2, _⟩ := List.findIdx?_eq_some_iff_getElem.1 hf
      exact ⟨_, List.getElem_mem h1, h2⟩
    simp [orEl, this]
theorem allIn_eq (l : List Int) (a b : Int) : X.i_allWithin l a b = some (l.all fun x => inR x a b) := by
  unfold X.i_allWithin X.slices_ContainsFunc_int_int X.slices_IndexFunc_int_int
  have := anyF_eq (fun x => !(inR x a b)) (X.i_allWithin_1 a b) l (fun x _ => by unfold X.i_allWithin_1; rw [i_within_eq]; rfl)
  rw [this]
  simp only [bind_some]
  congr 1
  rw [List.any_eq_not_all_not]
  simp
theorem s_l1All_eq (l : List Int) (a b : Int) : X.s_l1All l a b = some (l.all fun x => inR x a b) := by
  unfold X.s_l1All
  have key : ∀ (l : List Int) (j : Nat), rangeM (fun (j2 : Int) (x3 : Int) (_ : Unit) => (Option.bind (X.s_l1In x3 a b) fun v4_3 => (bif (!v4_3) then some (.inr (Sum.inl false)) else some (.inl ())))) (fun _ => some (Sum.inr ())) l j () = some (bif (l.all fun x => inR x a b) then .inr () else .inl false) := by
    intro l
    induction l with
    | nil => intro j; rfl
    | cons x l ih =>
      intro j
      rw [rangeM_cons, s_l1In_eq]
      cases h : inR x a b
      · simp [bind_some, h]
      · simp only [bind_some, Bool.not_true, cond_false, List.all_cons, h, Bool.true_and]
        exact ih _
  rw [key]
  cases (l.all fun x => inR x a b) <;> rfl

/-! ### Shapes -/
def wide (s : Shape) : Bool := (s.Index == 0 && s.Middle == 0) || (s.Middle == 0 && s.Ring == 0) || (s.Ring == 0 && s.Little == 0)
def gShape (s : Shape) : Bool := inR s.Thumb 0 2 && (inR s.Index 0 2 && (inR s.Middle 0 2 && (inR s.Ring 0 2 && inR s.Little 0 2))) && (!s.Spread || wide s)
theorem maySpread_eq (s : Shape) : X.i_Shape_maySpread s = some (wide s) := by
  unfold X.i_Shape_maySpread wide
  cases h1 : s.Index == 0 <;> cases h2 : s.Middle == 0 <;> cases h3 : s.Ring == 0 <;> cases h4 : s.Little == 0 <;> rfl
theorem i_IsShape_eq (s : Shape) : X.i_IsShape s = some (gShape s) := by
  unfold X.i_IsShape X.i_Shape_bends gShape
  simp only [bind_some, allIn_eq, maySpread_eq]
  have : appG (eI .i64) [s.Thumb] [s.Index, s.Middle, s.Ring, s.Little] = some [s.Thumb, s.Index, s.Middle, s.Ring, s.Little] := rfl
  rw [this]
  simp only [bind_some, allIn_eq, List.all_cons, List.all_nil, Bool.and_true]
  cases (inR s.Thumb 0 2 && (inR s.Index 0 2 && (inR s.Middle 0 2 && (inR s.Ring 0 2 && inR s.Little 0 2)))) <;> cases s.Spread <;> rfl
theorem s_shWide_eq (k : Nat) (s : Shape) : X.s_shWide (k + 4) s = some (wide s) := by
  unfold X.s_shWide X.s_shFingers wide
  have w : ∀ z : Int, -100 ≤ z → z ≤ 100 → wr z = z := fun z h1 h2 => wr_of (by omega) (by omega)
  simp only [bind_some, loopM_succ]
  cases h1 : s.Index == 0 <;> cases h2 : s.Middle == 0 <;> cases h3 : s.Ring == 0 <;> cases h4 : s.Little == 0 <;> simp [w, getI, h1, h2, h3, h4, orEl, bind_some]
theorem s_shGood_eq (k : Nat) (s : Shape) : X.s_shGood (k + 4) s = some (gShape s) := by
  unfold X.s_shGood X.s_shFingers gShape
  simp only [bind_some, s_l1In_eq, s_l1All_eq, s_shWide_eq, List.all_cons, List.all_nil, Bool.and_true]
  cases inR s.Thumb 0 2 <;> cases (inR s.Index 0 2 && (inR s.Middle 0 2 && (inR s.Ring 0 2 && inR s.Little 0 2))) <;> cases s.Spread <;> rfl

/-! ### Orientations, places -/
def opp (d : Int) : Int := if d.tmod 2 = 0 then d + 1 else d - 1
def gOrient (o : Orient) : Bool := inR o.Palm 0 5 && inR o.Fingers 0 5 && (o.Palm != o.Fingers && o.Palm != opp o.Fingers)
theorem inR_cases {x : Int} (h : inR x 0 5 = true) : x = 0 ∨ x = 1 ∨ x = 2 ∨ x = 3 ∨ x = 4 ∨ x = 5 := by
  rw [inR_iff] at h
  omega
theorem i_IsOrient_eq (o : Orient) : X.i_IsOrient o = some (gOrient o) := by
  unfold X.i_IsOrient gOrient
  simp only [bind_some, i_within_eq]
  cases h1 : inR o.Palm 0 5
  · rfl
  cases h2 : inR o.Fingers 0 5
  · rfl
  rcases inR_cases h1 with h | h | h | h | h | h <;> rcases inR_cases h2 with g | g | g | g | g | g <;> rw [h, g] <;> rfl
theorem s_orOpposite_eq {d : Int} (h : inR d 0 5 = true) : X.s_orOpposite d = some (opp d) := by
  rcases inR_cases h with h | h | h | h | h | h <;> rw [h] <;> rfl
theorem s_orGood_eq (o : Orient) : X.s_orGood o = some (gOrient o) := by
  unfold X.s_orGood X.s_orDir gOrient
  simp only [bind_some, s_l1In_eq]
  cases h1 : inR o.Palm 0 5
  · rfl
  cases h2 : inR o.Fingers 0 5
  · rfl
  simp only [bind_some, s_orOpposite_eq h2, cond_true, Bool.true_and]
  cases o.Palm != o.Fingers <;> rfl
def gPlace (p : Place) : Bool := inR p.Region 0 9 && inR p.Side (-1) 1 && !(p.Contact && p.Region == 0)
theorem i_IsPlace_eq (p : Place) : X.i_IsPlace p = some (gPlace p) := by
  unfold X.i_IsPlace gPlace
  simp only [bind_some, i_within_eq]
  cases h1 : inR p.Region 0 9
  · rfl
  cases h2 : inR p.Side (-1) 1
  · rfl
  cases p.Contact <;> rfl
theorem s_plGood_eq (p : Place) : X.s_plGood p = some (gPlace p) := by
  unfold X.s_plGood gPlace
  simp only [bind_some, s_l1In_eq]
  cases h1 : inR p.Region 0 9
  · rfl
  cases h2 : inR p.Side (-1) 1
  · rfl
  rw [inR_iff] at h1
  by_cases h : p.Region > 0
  · have : (p.Region == 0) = false := by simp; omega
    simp [h, this]
  · have : p.Region = 0 := by omega
    simp [this]

/-! ### Movements -/
def dirs : Str := [117, 100, 108, 114, 102, 98]
def isDir (b : UInt8) : Bool := b == 117 || (b == 100 || (b == 108 || (b == 114 || (b == 102 || b == 98))))
def gMove (m : Move) : Bool := decide (m.Steps.length ≤ 6) && (m.Steps.all isDir && (inR m.Repeat 1 3 && (!m.Steps.isEmpty || m.Repeat == 1)))
theorem getB_of {s : Str} {i : Nat} {b : UInt8} (h : s[i]? = some b) : getB s (i : Int) = some (b.toNat : Int) := by
  unfold getB getI
  rw [if_pos (by omega)]
  simp [h]
theorem seq_nil (s : Str) : seq s [] = s.isEmpty := by
  rw [seq_eq]
  cases s <;> simp
theorem ne_byte {b : UInt8} {c : Nat} (hc : c < 256) (h : b ≠ UInt8.ofNat c) : ((c : Int) == (b.toNat : Int)) = false := by
  rw [beq_eq_false_iff_ne]
  intro e
  apply h
  apply UInt8.toNat_inj.1
  have h2 : (UInt8.ofNat c).toNat = c := by simp; omega
  omega
theorem isDir_cases {b : UInt8} (h : isDir b = true) : b = 117 ∨ b = 100 ∨ b = 108 ∨ b = 114 ∨ b = 102 ∨ b = 98 := by
  simpa [isDir] using h
theorem mvIndex_eq (k : Nat) (b : UInt8) : ∃ z, X.s_mvIndex (k + 7) (b.toNat : Int) = some z ∧ decide (z < 0) = !(isDir b) := by
  cases hd : isDir b with
  | true =>
    rcases isDir_cases hd with h | h | h | h | h | h <;> subst h
    · exact ⟨0, rfl, rfl⟩
    · exact ⟨1, rfl, rfl⟩
    · exact ⟨2, rfl, rfl⟩
    · exact ⟨3, rfl, rfl⟩
    · exact ⟨4, rfl, rfl⟩
    · exact ⟨5, rfl, rfl⟩
  | false =>
    have w : ∀ z : Int, -100 ≤ z → z ≤ 100 → wr z = z := fun z h1 h2 => wr_of (by omega) (by omega)
    have hn : ∀ c : UInt8, isDir c = true → b ≠ c := fun c hc e => by rw [e, hc] at hd; cases hd
    have g0 := ne_byte (b := b) (c := 117) (by omega) (hn _ rfl)
    have g1 := ne_byte (b := b) (c := 100) (by omega) (hn _ rfl)
    have g2 := ne_byte (b := b) (c := 108) (by omega) (hn _ rfl)
    have g3 := ne_byte (b := b) (c := 114) (by omega) (hn _ rfl)
    have g4 := ne_byte (b := b) (c := 102) (by omega) (hn _ rfl)
    have g5 := ne_byte (b := b) (c := 98) (by omega) (hn _ rfl)
    refine ⟨-1, ?_, rfl⟩
    unfold X.s_mvIndex X.s_mvLetters
    simp only [bind_some, loopM_succ]
    have s0 : (bif decide ((0 : Int) < ((List.length ([117, 100, 108, 114, 102, 98] : Str) : Nat) : Int)) then 1 else 0) = 1 := rfl
    simp only [Int.cast_ofNat_Int] at g0 g1 g2 g3 g4 g5
    simp [w, getB, getI, bind_some, orEl, g0, g1, g2, g3, g4, g5]
/-- A loop over a list, index by index. -/
def foldS {α σ ρ : Type} (g : Nat → α → σ → σ ⊕ ρ) (fin : σ → ρ) : List α → Nat → σ → ρ
  | [], _, s => fin s
  | x :: l, i, s => match g i x s with
    | .inl s' => foldS g fin l (i + 1) s'
    | .inr r => r
theorem forS {α σ τ ρ : Type} {l : List α} (mk : Nat → σ → τ) {body : τ → Option (τ ⊕ ρ)} (g : Nat → α → σ → σ ⊕ ρ) (fin : σ → ρ) (inv : Nat → σ → Prop)
    (h1 : ∀ i x s, l[i]? = some x → inv i s → body (mk i s) = some (match g i x s with | .inl s' => .inl (mk (i + 1) s') | .inr r => .inr r))
    (h2 : ∀ s, inv l.length s → body (mk l.length s) = some (.inr (fin s)))
    (hi : ∀ i x s s', l[i]? = some x → inv i s → g i x s = .inl s' → inv (i + 1) s') :
    ∀ (fu : Nat) (s : σ), inv 0 s → l.length < fu → loopM body fu (mk 0 s) = some (foldS g fin l 0 s) := by
  have key : ∀ (r : List α) (i fu : Nat) (s : σ), l.drop i = r → i ≤ l.length → inv i s → r.length < fu → loopM body fu (mk i s) = some (foldS g fin r i s) := by
    intro r
    induction r with
    | nil =>
      intro i fu s hd hl hv hf
      have hle : l.length ≤ i := List.drop_eq_nil_iff.1 hd
      have : i = l.length := by omega
      subst this
      obtain ⟨n, rfl⟩ : ∃ n, fu = n + 1 := ⟨fu - 1, by simp at hf; omega⟩
      rw [loopM_succ, h2 s hv]
      rfl
    | cons x r ih =>
      intro i fu s hd hl hv hf
      have hlt : i < l.length := by
        rcases Nat.lt_or_ge i l.length with h | h
        · exact h
        · rw [List.drop_eq_nil_of_le h] at hd; cases hd
      have hx : l[i]? = some x := by
        have := congrArg (fun l => l[0]?) hd
        simpa using this
      have hd' : l.drop (i + 1) = r := by rw [← List.drop_drop (i := 1) (j := i), hd]; rfl
      obtain ⟨n, rfl⟩ : ∃ n, fu = n + 1 := ⟨fu - 1, by omega⟩
      rw [loopM_succ, h1 i x s hx hv, bind_some, foldS]
      cases hg : g i x s with
      | inl s' => exact ih (i + 1) n s' hd' (by omega) (hi i x s s' hx hv hg) (by simp at hf; omega)
      | inr q => rfl
  intro fu s hv hf
  exact key l 0 fu s rfl (Nat.zero_le _) hv hf
theorem forT {α σ τ ρ : Type} {body : τ → Option (τ ⊕ ρ)} {fu : Nat} {t0 : τ} (l : List α) (mk : Nat → σ → τ) (g : Nat → α → σ → σ ⊕ ρ) (fin : σ → ρ) (inv : Nat → σ → Prop) (s0 : σ) (ht : mk 0 s0 = t0) (hv : inv 0 s0) (hf : l.length < fu)
    (h1 : ∀ i x s, l[i]? = some x → inv i s → body (mk i s) = some (match g i x s with | .inl s' => .inl (mk (i + 1) s') | .inr r => .inr r))
    (h2 : ∀ s, inv l.length s → body (mk l.length s) = some (.inr (fin s)))
    (hi : ∀ i x s s', l[i]? = some x → inv i s → g i x s = .inl s' → inv (i + 1) s') : loopM body fu t0 = some (foldS g fin l 0 s0) := by
  subst ht
  exact forS mk g fin inv h1 h2 hi fu s0 hv hf
/-- A test of each element. -/
theorem foldS_all {α ρ : Type} (p : α → Bool) (a b : ρ) : ∀ (l : List α) (i : Nat), foldS (fun _ x (_ : Unit) => if p x then .inl () else .inr b) (fun _ => a) l i () = if l.all p then a else b
  | [], i => rfl
  | x :: l, i => by
    rw [foldS]
    cases h : p x
    · simp [h]
    · simp [h, foldS_all p a b l (i + 1)]
theorem mvSteps_eq (k : Nat) (s : Str) (hl : s.length ≤ 2000000) (hk : 2000010 ≤ k) : X.s_mvSteps k s = some (s.all isDir) := by
  obtain ⟨q, rfl⟩ : ∃ q, k = q + 7 := ⟨k - 7, by omega⟩
  unfold X.s_mvSteps
  rw [forT (t0 := 0) s (fun i (_ : Unit) => (i : Int)) (fun _ x (_ : Unit) => if isDir x then Sum.inl () else Sum.inr (Sum.inl false)) (fun _ => Sum.inr ()) (fun _ _ => True) () rfl trivial (by omega) ?_ ?_ ?_, foldS_all]
  · cases s.all isDir <;> rfl
  · intro i x _ hx _
    have hlt : i < s.length := (List.getElem?_eq_some_iff.1 hx).1
    have hd : decide ((i : Int) < (s.length : Int)) = true := by simpa using hlt
    obtain ⟨z, hz, hz2⟩ := mvIndex_eq q x
    simp only [hd, cond_true, getB_of hx, bind_some, hz, hz2]
    cases isDir x
    · rfl
    · simp [wr_of (z := (i : Int) + 1) (by omega) (by omega)]
  · simp
  · intros; trivial
theorem s_mvGood_eq (k : Nat) (m : Move) (hl : m.Steps.length ≤ 2000000) (hk : 2000010 ≤ k) : X.s_mvGood k m = some (gMove m) := by
  unfold X.s_mvGood gMove
  simp only [mvSteps_eq k m.Steps hl hk, bind_some, s_l1In_eq, seq_nil]
  have hd : decide ((m.Steps.length : Int) ≤ 6) = decide (m.Steps.length ≤ 6) := by
    rw [Bool.eq_iff_iff]; simp; omega
  rw [hd]
  cases decide (m.Steps.length ≤ 6)
  · rfl
  cases m.Steps.all isDir
  · rfl
  cases inR m.Repeat 1 3
  · rfl
  cases m.Steps.isEmpty <;> rfl
end Go.Proofs.XC
