/- Plain laws of the plain functions: no program, no memory. By AI agents; no person has read it. -/
import Derived.Test.YtjnablhfhdedfaaGreatDoorPX2
set_option linter.unusedVariables false
set_option linter.unusedSimpArgs false
set_option maxRecDepth 100000
set_option maxHeartbeats 40000000
namespace Go.Proofs.XC
open Go Go.RowKit
def dig (z : Int) : UInt8 := UInt8.ofNat (48 + z.toNat)
theorem itoa_eq {z : Int} (h0 : 0 ≤ z) (h1 : z < 10) : X.strconv_Itoa z = some [dig z] := by
  unfold X.strconv_Itoa
  rw [if_pos ⟨h0, by omega⟩, Lib.decDigits, dif_pos (by omega)]
  rfl
theorem l1Num_eq {z : Int} (k : Nat) (h0 : 0 ≤ z) (h1 : z < 10) : X.s_l1Num (k + 1) z = some [dig z] := by
  rw [X.s_l1Num]
  have : decide (z < 10) = true := by simpa using h1
  rw [this, cond_true]
  have hz : z = 0 ∨ z = 1 ∨ z = 2 ∨ z = 3 ∨ z = 4 ∨ z = 5 ∨ z = 6 ∨ z = 7 ∨ z = 8 ∨ z = 9 := by omega
  rcases hz with h | h | h | h | h | h | h | h | h | h <;> subst h <;> rfl
theorem catS_of {a b : Str} (h : a.length + b.length ≤ 9223372036854775807) : catS a b = some (a ++ b) := by
  unfold catS
  rw [if_pos h]
/-- A shape's text. -/
def tShape (s : Shape) : Str := [dig s.Thumb, dig s.Index, dig s.Middle, dig s.Ring, dig s.Little] ++ (if s.Spread then [115] else [])
theorem gShape_iff {s : Shape} : gShape s = true ↔ (0 ≤ s.Thumb ∧ s.Thumb ≤ 2) ∧ (0 ≤ s.Index ∧ s.Index ≤ 2) ∧ (0 ≤ s.Middle ∧ s.Middle ≤ 2) ∧ (0 ≤ s.Ring ∧ s.Ring ≤ 2) ∧ (0 ≤ s.Little ∧ s.Little ≤ 2) ∧ (s.Spread = false ∨ wide s = true) := by
  unfold gShape
  simp only [inR, Bool.and_eq_true, decide_eq_true_eq, Bool.or_eq_true, Bool.not_eq_true']
  constructor
  · rintro ⟨⟨a, b, c, d, e⟩, f⟩; exact ⟨a, b, c, d, e, f⟩
  · rintro ⟨a, b, c, d, e, f⟩; exact ⟨⟨a, b, c, d, e⟩, f⟩
theorem i_Shape_text_eq {s : Shape} (h : gShape s = true) : X.i_Shape_text s = some (tShape s) := by
  rw [gShape_iff] at h
  unfold X.i_Shape_text X.i_Shape_bends tShape
  simp only [itoa_eq (z := s.Thumb) (by omega) (by omega), bind_some, rangeM_cons, rangeM_nil, itoa_eq (z := s.Index) (by omega) (by omega), itoa_eq (z := s.Middle) (by omega) (by omega), itoa_eq (z := s.Ring) (by omega) (by omega), itoa_eq (z := s.Little) (by omega) (by omega)]
  cases s.Spread <;> rfl
theorem s_shText_eq {s : Shape} (k : Nat) (h : gShape s = true) : X.s_shText (k + 1) s = some (tShape s) := by
  rw [gShape_iff] at h
  unfold X.s_shText X.s_shFingers tShape
  simp only [l1Num_eq (z := s.Thumb) k (by omega) (by omega), bind_some, rangeM_cons, rangeM_nil, l1Num_eq (z := s.Index) k (by omega) (by omega), l1Num_eq (z := s.Middle) k (by omega) (by omega), l1Num_eq (z := s.Ring) k (by omega) (by omega), l1Num_eq (z := s.Little) k (by omega) (by omega)]
  cases s.Spread <;> rfl
def plainL : List Shape := [⟨0, 0, 0, 0, 0, false⟩, ⟨0, 0, 0, 0, 0, true⟩, ⟨2, 2, 2, 2, 2, false⟩, ⟨1, 0, 0, 0, 0, false⟩, ⟨1, 0, 2, 2, 2, false⟩, ⟨0, 0, 2, 2, 2, false⟩]
theorem parse_eq (k : Nat) (s : Shape) (hp : s ∈ plainL) : X.i_ParseShape (k + 6) (tShape s) = some (s, true) := by
  have key : gShape s = true ∧ X.i_ParseShape (k + 6) (tShape s) = Option.bind (X.i_Shape_text s) (fun v => bif (!seq v (tShape s)) then some (zShape, false) else some (s, true)) := by
    simp only [plainL, List.mem_cons, List.not_mem_nil, or_false] at hp
    rcases hp with hp | hp | hp | hp | hp | hp <;> subst hp <;> exact ⟨rfl, rfl⟩
  obtain ⟨h1, h2⟩ := key
  rw [h2, i_Shape_text_eq h1, bind_some, seq_eq]
  simp
theorem i_PlainShapes_eq (k : Nat) : X.i_PlainShapes (k + 6) = some plainL := by
  have h0 := parse_eq k ⟨0, 0, 0, 0, 0, false⟩ (by simp [plainL])
  have h1 := parse_eq k ⟨0, 0, 0, 0, 0, true⟩ (by simp [plainL])
  have h2 := parse_eq k ⟨2, 2, 2, 2, 2, false⟩ (by simp [plainL])
  have h3 := parse_eq k ⟨1, 0, 0, 0, 0, false⟩ (by simp [plainL])
  have h4 := parse_eq k ⟨1, 0, 2, 2, 2, false⟩ (by simp [plainL])
  have h5 := parse_eq k ⟨0, 0, 2, 2, 2, false⟩ (by simp [plainL])
  rw [show tShape ⟨0, 0, 0, 0, 0, false⟩ = [48, 48, 48, 48, 48] from rfl] at h0
  rw [show tShape ⟨0, 0, 0, 0, 0, true⟩ = [48, 48, 48, 48, 48, 115] from rfl] at h1
  rw [show tShape ⟨2, 2, 2, 2, 2, false⟩ = [50, 50, 50, 50, 50] from rfl] at h2
  rw [show tShape ⟨1, 0, 0, 0, 0, false⟩ = [49, 48, 48, 48, 48] from rfl] at h3
  rw [show tShape ⟨1, 0, 2, 2, 2, false⟩ = [49, 48, 50, 50, 50] from rfl] at h4
  rw [show tShape ⟨0, 0, 2, 2, 2, false⟩ = [48, 48, 50, 50, 50] from rfl] at h5
  unfold X.i_PlainShapes
  simp only [rangeM_cons, rangeM_nil, h0, h1, h2, h3, h4, h5, bind_some]
  rfl
theorem s_siPlain_eq (k : Nat) : X.s_siPlain (k + 6) = some plainL := by rfl
theorem qShape_iff (a b : Shape) : qShape a b = decide (a = b) := by
  unfold qShape
  cases a
  cases b
  rw [Bool.eq_iff_iff]
  simp
theorem qOrient_iff (a b : Orient) : qOrient a b = decide (a = b) := by
  unfold qOrient
  cases a
  cases b
  rw [Bool.eq_iff_iff]
  simp
theorem s_find_eq (o : Shape) : ∀ (l : List Shape) (j : Nat), rangeM (fun (j4 : Int) (x5 : Shape) (_ : Unit) => (bif (qShape x5 o) then some (.inr (Sum.inl (0 : Int))) else some (.inl ()))) (fun _ => some (Sum.inr ())) l j () = some (if o ∈ l then Sum.inl 0 else Sum.inr ())
  | [], j => by simp [rangeM_nil]
  | x :: l, j => by
    rw [rangeM_cons, qShape_iff]
    by_cases h : x = o
    · subst h; simp [bind_some]
    · have h' : ¬ o = x := fun e => h e.symm
      simp only [h, decide_false, cond_false, bind_some, List.mem_cons, h', false_or]
      exact s_find_eq o l (j + 1)
theorem i_contains_eq (o : Shape) (l : List Shape) : X.slices_Contains_i_Shape_i_Shape l o = some (decide (o ∈ l)) := by
  unfold X.slices_Contains_i_Shape_i_Shape X.slices_Index_i_Shape_i_Shape
  have h := anyF_eq (fun x => qShape o x) (fun x => some (qShape o x)) l (fun x _ => rfl)
  simp only [bind_some] at h
  refine Eq.trans h ?_
  congr 1
  rw [Bool.eq_iff_iff]
  simp [qShape_iff]
/-- A mirrored orientation. -/
def mirD (d : Int) : Int := if d = 2 then 3 else if d = 3 then 2 else d
def mirO (o : Orient) : Orient := ⟨mirD o.Palm, mirD o.Fingers⟩
theorem i_mirD_eq (d : Int) : X.i_Orient_mirrored_1 d = some (mirD d) := by
  unfold X.i_Orient_mirrored_1 mirD
  by_cases h : d = 2
  · subst h; rfl
  · by_cases h3 : d = 3
    · subst h3; rfl
    · rw [beq_eq_false_iff_ne.2 h, beq_eq_false_iff_ne.2 h3]; simp [h, h3]
theorem i_mirO_eq (o : Orient) : X.i_Orient_mirrored o = some (mirO o) := by
  unfold X.i_Orient_mirrored
  simp only [i_mirD_eq, bind_some]
  rfl
theorem s_mirD_eq (d : Int) : X.s_orSwap d = some (mirD d) := by
  unfold X.s_orSwap mirD
  by_cases h : d = 2
  · subst h; rfl
  · by_cases h3 : d = 3
    · subst h3; rfl
    · rw [beq_eq_false_iff_ne.2 h, beq_eq_false_iff_ne.2 h3]; simp [h, h3]
theorem s_mirO_eq (o : Orient) : X.s_orMirror o = some (mirO o) := by
  unfold X.s_orMirror
  simp only [s_mirD_eq, bind_some]
  rfl
theorem mirD_mirD (d : Int) : mirD (mirD d) = d := by
  unfold mirD
  repeat' split
  all_goals omega
theorem mirO_mirO (o : Orient) : mirO (mirO o) = o := by
  unfold mirO
  simp [mirD_mirD]
/-- A mirrored movement. -/
def mirM (m : Move) : Move := ⟨m.Steps.map swapLR, m.Repeat⟩
theorem isDir_swap (b : UInt8) : isDir (swapLR b) = isDir b := by
  unfold swapLR
  split
  · subst_vars; rfl
  · split
    · subst_vars; rfl
    · rfl
theorem gMove_mir {m : Move} (h : gMove m = true) : gMove (mirM m) = true := by
  rw [gMove_iff] at h ⊢
  obtain ⟨h1, h2, h3, h4⟩ := h
  refine ⟨by simpa [mirM] using h1, ?_, h3, ?_⟩
  · rw [List.all_eq_true] at h2 ⊢
    intro b hb
    obtain ⟨c, hc, rfl⟩ := List.mem_map.1 hb
    rw [isDir_swap]
    exact h2 c hc
  · rcases h4 with h4 | h4
    · left
      simpa [mirM] using h4
    · exact .inr h4
theorem s_mvMirror_eq {m : Move} {k : Nat} (hl : m.Steps.length ≤ 2000000) (hk : m.Steps.length < k) : X.s_mvMirror k m = some (mirM m) := by
  unfold X.s_mvMirror
  rw [forT (t0 := (([] : Str), (0 : Int))) m.Steps (fun i (t : Str) => (t, (i : Int))) (fun _ x t => Sum.inl (t ++ [swapLR x])) (fun t => t) (fun i t => t.length = i) [] rfl rfl hk ?_ ?_ ?_]
  · have key : ∀ (l : Str) (i : Nat) (t : Str), foldS (fun _ (x : UInt8) (t : Str) => (Sum.inl (t ++ [swapLR x]) : Str ⊕ Str)) (fun t => t) l i t = t ++ l.map swapLR := by
      intro l
      induction l with
      | nil => intro i t; simp [foldS]
      | cons x l ih => intro i t; rw [foldS]; simp [ih]
    rw [key]
    rfl
  · intro i x t hx ht
    have hlt : i < m.Steps.length := (List.getElem?_eq_some_iff.1 hx).1
    have hd : decide ((i : Int) < (m.Steps.length : Int)) = true := by simpa using hlt
    have hw : wr ((i : Int) + 1) = ((i + 1 : Nat) : Int) := by rw [wr_of (by omega) (by omega)]; rfl
    have hcut : cutS m.Steps (i : Int) ((i + 1 : Nat) : Int) = some [x] := by
      unfold cutS
      rw [if_pos ⟨by omega, by omega, by omega⟩]
      have h1 : (((i + 1 : Nat) : Int) - (i : Int)).toNat = 1 := by omega
      rw [h1, Int.toNat_natCast, List.take_one]
      have h2 : (m.Steps.drop i).head? = some x := by rw [List.head?_drop]; exact hx
      rw [h2]
      rfl
    simp only [hd, cond_true, getB_of hx, bind_some, hw, hcut]
    unfold swapLR
    have hc : ∀ c : Str, c.length ≤ 1 → catS t c = some (t ++ c) := fun c hc => catS_of (by omega)
    by_cases h1 : x = 108
    · subst h1
      simp [hc, bind_some]
    · have e1 : ((x.toNat : Int) == 108) = false := by
        have := ne_byte (b := x) (c := 108) (by omega) h1
        rw [beq_eq_false_iff_ne] at this ⊢
        omega
      by_cases h2 : x = 114
      · subst h2
        simp [hc, bind_some]
      · have e2 : ((x.toNat : Int) == 114) = false := by
          have := ne_byte (b := x) (c := 114) (by omega) h2
          rw [beq_eq_false_iff_ne] at this ⊢
          omega
        simp [e1, e2, hc, bind_some, h1, h2]
  · intro t ht
    simp
  · intro i x t t' _ ht hg
    injection hg with hg
    subst hg
    simp [ht]
end Go.Proofs.XC
