/- Plain laws of the plain functions: no program, no memory. By AI agents; no person has read it. -/
import Derived.Test.YtkckmehkialgjaaGreatDoorPU1
set_option linter.unusedVariables false
set_option linter.unusedSimpArgs false
set_option maxRecDepth 100000
set_option maxHeartbeats 40000000
namespace Go.Proofs.XC
open Go Go.RowKit
/-! ### Neighbours -/
theorem ixs_iff {α : Type} {p : α → Bool} : ∀ {l : List α} {j : Nat} {z : Int}, z ∈ ixs p l j ↔ ∃ (q : Nat) (x : α), l[q]? = some x ∧ p x = true ∧ z = ((j + q : Nat) : Int)
  | [], j, z => by simp [ixs]
  | x :: l, j, z => by
    have ih := ixs_iff (p := p) (l := l) (j := j + 1) (z := z)
    unfold ixs
    constructor
    · intro h
      have key : z ∈ ixs p l (j + 1) → ∃ (q : Nat) (y : α), (x :: l)[q]? = some y ∧ p y = true ∧ z = ((j + q : Nat) : Int) := fun h => by
        obtain ⟨q, y, h1, h2, h3⟩ := ih.1 h
        exact ⟨q + 1, y, by simpa using h1, h2, by rw [h3]; congr 1; omega⟩
      split at h
      · rename_i hp
        rcases List.mem_cons.1 h with h | h
        · exact ⟨0, x, rfl, hp, by rw [h, Nat.add_zero]⟩
        · exact key h
      · exact key h
    · rintro ⟨q, y, h1, h2, h3⟩
      cases q with
      | zero =>
        simp at h1
        subst h1
        rw [if_pos h2, h3]
        simp
      | succ q =>
        have : z ∈ ixs p l (j + 1) := ih.2 ⟨q, y, by simpa using h1, h2, by rw [h3]; congr 1; omega⟩
        split
        · exact List.mem_cons_of_mem _ this
        · exact this
theorem qOr' (a b : Orient) : qOrient a b = decide (a = b) := by
  cases a; cases b
  unfold qOrient
  rw [Bool.eq_iff_iff]
  simp [and_assoc]
theorem qPl' (a b : Place) : qPlace a b = decide (a = b) := by
  cases a; cases b
  unfold qPlace
  rw [Bool.eq_iff_iff]
  simp [and_assoc]
theorem qMo' (a b : Move) : qMove a b = decide (a = b) := by
  cases a; cases b
  unfold qMove
  rw [Bool.eq_iff_iff]
  simp [and_assoc, seq_eq]
theorem qHand_comm (a b : Hand) : qHand a b = qHand b a := by rw [qHand_iff, qHand_iff, decide_eq_decide]; exact eq_comm
theorem apart_comm (a b : Sign) : apart a b = apart b a := by
  unfold apart
  have e1 : qShape a.Main.Shape b.Main.Shape = qShape b.Main.Shape a.Main.Shape := by rw [qShape_iff, qShape_iff, decide_eq_decide]; exact eq_comm
  have e2 : qOrient a.Main.Orient b.Main.Orient = qOrient b.Main.Orient a.Main.Orient := by rw [qOr', qOr', decide_eq_decide]; exact eq_comm
  have e3 : qPlace a.Main.Place b.Main.Place = qPlace b.Main.Place a.Main.Place := by rw [qPl', qPl', decide_eq_decide]; exact eq_comm
  have e4 : qMove a.Main.Move b.Main.Move = qMove b.Main.Move a.Main.Move := by rw [qMo', qMo', decide_eq_decide]; exact eq_comm
  rw [e1, e2, e3, e4, qHand_comm a.Other b.Other]
  by_cases h : a.Two = b.Two
  · rw [if_pos h, if_pos h.symm]
  · rw [if_neg h, if_neg fun h2 => h h2.symm]
theorem pr_comm (x y : Sign) : pr x y = pr y x := by unfold pr; rw [apart_comm]
def adj (l : List Sign) (i j : Nat) : Prop := ∃ x y, l[i]? = some x ∧ l[j]? = some y ∧ pr x y = true
theorem adj_comm {l : List Sign} {i j : Nat} (h : adj l i j) : adj l j i := by
  obtain ⟨x, y, hx, hy, hp⟩ := h
  exact ⟨y, x, hy, hx, by rw [pr_comm]; exact hp⟩
theorem mem_vWith {l : List Sign} {i : Nat} {x : Sign} (hx : l[i]? = some x) {z : Int} : z ∈ vWith l x ↔ ∃ j : Nat, z = (j : Int) ∧ adj l i j := by
  unfold vWith
  rw [ixs_iff]
  constructor
  · rintro ⟨q, y, h1, h2, h3⟩
    exact ⟨q, by rw [h3, Nat.zero_add], x, y, hx, h1, h2⟩
  · rintro ⟨j, h1, x', y, h2, h3, h4⟩
    rw [hx] at h2
    obtain rfl := Option.some.inj h2
    exact ⟨j, y, h3, h4, by rw [h1, Nat.zero_add]⟩
/-! ### Steps to one sign -/
def nn (S : List Int) : Nat := S.countP fun v => decide (0 ≤ v)
structure SI (l : List Sign) (b : Nat) (S : List Int) : Prop where
  len : S.length = l.length
  low : ∀ (i : Nat) v, S[i]? = some v → -1 ≤ v ∧ v < (nn S : Int)
  back : ∀ (i : Nat) v, S[i]? = some v → 0 < v → ∃ j : Nat, S[j]? = some (v - 1) ∧ adj l i j
  zero : ∀ (i : Nat), S[i]? = some 0 → i = b
  at0 : S[b]? = some 0
def QI (S Q : List Int) : Prop := ∀ z ∈ Q, ∃ (i : Nat) (v : Int), z = (i : Int) ∧ S[i]? = some v ∧ 0 ≤ v
def edge (x : Nat) (k : Int) (s : List Int × List Int) : List Int × List Int := if s.1.getD k.toNat 0 < 0 then (s.1.set k.toNat (wr (s.1.getD x 0 + 1)), s.2 ++ [k]) else s
def mea (l : List Sign) (s : List Int × List Int) : Nat := l.length - nn s.1 + s.2.length
theorem nn_le (S : List Int) : nn S ≤ S.length := List.countP_le_length
theorem getD_some {S : List Int} {i : Nat} {v : Int} (h : S[i]? = some v) : S.getD i 0 = v := by rw [List.getD_eq_getElem?_getD, h]; rfl
theorem nn_set {S : List Int} {k : Nat} {u v : Int} (h : S[k]? = some u) (hu : u < 0) (hv : 0 ≤ v) : nn (S.set k v) = nn S + 1 := by
  obtain ⟨hk, he⟩ := List.getElem?_eq_some_iff.1 h
  unfold nn
  rw [List.countP_set hk]
  have h1 : decide (0 ≤ S[k]) = false := by rw [he]; simp; omega
  have h2 : decide (0 ≤ v) = true := by simpa using hv
  simp [h1, h2]
theorem edge_inv {l : List Sign} {b x j : Nat} {s : List Int × List Int} (hS : SI l b s.1) (hQ : QI s.1 s.2) (hl : l.length ≤ 16) (hx : ∃ v, s.1[x]? = some v ∧ 0 ≤ v) (ha : adj l x j) :
    SI l b (edge x (j : Int) s).1 ∧ QI (edge x (j : Int) s).1 (edge x (j : Int) s).2 ∧ mea l (edge x (j : Int) s) = mea l s ∧ (∃ v, (edge x (j : Int) s).1[x]? = some v ∧ 0 ≤ v) := by
  obtain ⟨S, Q⟩ := s
  obtain ⟨v, hv, hv0⟩ := hx
  simp only at hS hQ hv
  obtain ⟨x1, y1, _, hy1, _⟩ := id ha
  have hj : j < S.length := by rw [hS.len]; exact (List.getElem?_eq_some_iff.1 hy1).1
  have hju : S[j]? = some S[j] := List.getElem?_eq_getElem hj
  unfold edge
  simp only [Int.toNat_natCast, getD_some hv, getD_some hju]
  by_cases c : S[j] < 0
  · rw [if_pos c]
    have hlow := hS.low x v hv
    have hnn := nn_le S
    rw [hS.len] at hnn
    have w : wr (v + 1) = v + 1 := wr_of (by omega) (by omega)
    rw [w]
    have hn := nn_set (v := v + 1) hju c (by omega)
    have hnn2 := nn_le (S.set j (v + 1))
    rw [List.length_set, hS.len] at hnn2
    have hjne : ∀ (i : Nat) u, S[i]? = some u → 0 ≤ u → i ≠ j := fun i u hi hu e => by subst e; rw [hju] at hi; have := Option.some.inj hi; omega
    have keep : ∀ (i : Nat) u, S[i]? = some u → 0 ≤ u → (S.set j (v + 1))[i]? = some u := fun i u hi hu => by rw [List.getElem?_set_ne (Ne.symm (hjne i u hi hu))]; exact hi
    refine ⟨⟨by simp [hS.len], fun i u hi => ?_, fun i u hi hu => ?_, fun i hi => ?_, keep b 0 hS.at0 (Int.le_refl _)⟩, fun z hz => ?_, ?_, v, keep x v hv hv0, hv0⟩
    · rw [hn]
      by_cases e : i = j
      · subst e
        rw [List.getElem?_set_self hj] at hi
        have := Option.some.inj hi
        omega
      · rw [List.getElem?_set_ne (Ne.symm e)] at hi
        have := hS.low i u hi
        omega
    · by_cases e : i = j
      · subst e
        rw [List.getElem?_set_self hj] at hi
        have := Option.some.inj hi
        subst this
        exact ⟨x, by rw [Int.add_sub_cancel]; exact keep x v hv hv0, adj_comm ha⟩
      · rw [List.getElem?_set_ne (Ne.symm e)] at hi
        obtain ⟨q, h1, h2⟩ := hS.back i u hi hu
        exact ⟨q, keep q _ h1 (by omega), h2⟩
    · by_cases e : i = j
      · subst e
        rw [List.getElem?_set_self hj] at hi
        have := Option.some.inj hi
        omega
      · rw [List.getElem?_set_ne (Ne.symm e)] at hi
        exact hS.zero i hi
    · rcases List.mem_append.1 hz with hz | hz
      · obtain ⟨i, u, h1, h2, h3⟩ := hQ z hz
        exact ⟨i, u, h1, keep i u h2 h3, h3⟩
      · rw [List.mem_singleton] at hz
        exact ⟨j, v + 1, hz, List.getElem?_set_self hj, by omega⟩
    · unfold mea
      simp only [hn, List.length_append, List.length_singleton]
      omega
  · rw [if_neg c]
    exact ⟨hS, hQ, rfl, v, hv, hv0⟩
def SB (l : List Sign) (b x : Nat) (m : Nat) (_ : Nat) (s : List Int × List Int) : Prop := SI l b s.1 ∧ QI s.1 s.2 ∧ mea l s = m ∧ (∃ v, s.1[x]? = some v ∧ 0 ≤ v) ∧ s.2.length ≤ 1000
theorem bfs {k : Nat} {l : List Sign} {b : Nat} (hg : ∀ s ∈ l, gSign s = true) (hl : l.length ≤ 16) (hk : 10 ≤ k) : ∀ (m : Nat) (s : List Int × List Int), SI l b s.1 → QI s.1 s.2 → mea l s = m → m ≤ 100 →
    ∃ S, SI l b S ∧ ∀ fu, m < fu → loopM (fun (⟨l13, l16⟩ : List Int × List Int) => (bif decide ((List.length l16 : Int) > 0) then (Option.bind (getI l16 0) fun y9_1 => (Option.bind (cutS l16 1 (List.length l16 : Int)) fun y10_1 => (Option.bind (X.s_prWith k l y9_1) fun v11_2 => (Option.bind (rangeM (fun (j40 : Int) (x41 : Int) ⟨l27, l30⟩ => (Option.bind (getI l27 x41) fun y14_2 => (bif decide (y14_2 < 0) then (Option.bind (getI l27 y9_1) fun y15_4 => (Option.bind (appG (eI .i64) l30 ([x41] : List Int)) fun y16_3 => some (.inl ((List.set l27 (Int.toNat x41) (wr (y15_4 + 1))), y16_3)))) else some (.inl (l27, l30))))) (fun ⟨l27, l30⟩ => some (l27, l30)) v11_2 0 (l13, y10_1)) fun ⟨l33, l36⟩ => some (.inl (l33, l36)))))) else some (.inr (l13, l16)))) fu s = some (S, []) ∧ loopM (fun (⟨l4, l7⟩ : List Int × List Int) => (bif decide ((List.length l7 : Int) > 0) then (Option.bind (getI l7 0) fun y8_2 => (Option.bind (X.i_pairsWith k l y8_2) fun v8_4 => (Option.bind (rangeM (fun (j31 : Int) (x32 : Int) ⟨l18, l21⟩ => (Option.bind (getI l18 x32) fun y11_2 => (bif decide (y11_2 < 0) then (Option.bind (getI l21 0) fun y12_4 => (Option.bind (getI l18 y12_4) fun y12_6 => (Option.bind (appG (eI .i64) l21 ([x32] : List Int)) fun y13_3 => some (.inl ((List.set l18 (Int.toNat x32) (wr (y12_6 + 1))), y13_3))))) else some (.inl (l18, l21))))) (fun ⟨l18, l21⟩ => some (l18, l21)) v8_4 0 (l4, l7)) fun ⟨l24, l27⟩ => (Option.bind (cutS l27 1 (List.length l27 : Int)) fun y7_1 => some (.inl (l24, y7_1)))))) else some (.inr (l4, l7)))) fu s = some (S, []) := by
  intro m
  induction m with
  | zero =>
    intro s hS hQ hm _
    obtain ⟨S, Q⟩ := s
    have hq : Q = [] := List.eq_nil_of_length_eq_zero (by unfold mea at hm; simp only at hm; omega)
    subst hq
    refine ⟨S, hS, fun fu hf => ?_⟩
    obtain ⟨f, rfl⟩ : ∃ f, fu = f + 1 := ⟨fu - 1, by omega⟩
    exact ⟨by rw [loopM_succ]; rfl, by rw [loopM_succ]; rfl⟩
  | succ m ih =>
    intro s hS hQ hm hm1
    obtain ⟨S, Q⟩ := s
    cases Q with
    | nil =>
      refine ⟨S, hS, fun fu hf => ?_⟩
      obtain ⟨f, rfl⟩ : ∃ f, fu = f + 1 := ⟨fu - 1, by omega⟩
      exact ⟨by rw [loopM_succ]; rfl, by rw [loopM_succ]; rfl⟩
    | cons z Q =>
      obtain ⟨x, v, rfl, hv, hv0⟩ := hQ z List.mem_cons_self
      simp only at hS hv
      have hxl : x < l.length := by rw [← hS.len]; exact (List.getElem?_eq_some_iff.1 hv).1
      have hx : l[x]? = some l[x] := List.getElem?_eq_getElem hxl
      have hmQ : mea l (S, Q) = m := by unfold mea at hm ⊢; simp only [List.length_cons] at hm; simp only; omega
      have hQl : Q.length ≤ 1000 := by unfold mea at hmQ; simp only at hmQ; omega
      have hQ' : QI S Q := fun z hz => hQ z (List.mem_cons_of_mem _ hz)
      have step : ∀ (i : Nat) (q : Int) (s : List Int × List Int), (vWith l l[x])[i]? = some q → SB l b x m i s → SB l b x m (i + 1) (edge x q s) ∧ ∃ (j : Nat) (u w : Int), q = (j : Int) ∧ s.1[j]? = some u ∧ s.1[x]? = some w ∧ getI s.1 q = some u ∧ edge x q s = if u < 0 then (s.1.set q.toNat (wr (w + 1)), s.2 ++ [q]) else s := by
        intro i q s hq hb
        obtain ⟨b1, b2, b3, b4, b5⟩ := hb
        obtain ⟨j, rfl, ha⟩ := (mem_vWith hx).1 (mem_of hq)
        obtain ⟨c1, c2, c3, c4⟩ := edge_inv b1 b2 hl b4 ha
        obtain ⟨w, hw, hw0⟩ := b4
        obtain ⟨x1, y1, _, hy1, _⟩ := id ha
        have hj : j < s.1.length := by rw [b1.len]; exact (List.getElem?_eq_some_iff.1 hy1).1
        refine ⟨⟨c1, c2, by rw [c3]; exact b3, c4, ?_⟩, j, s.1[j], w, rfl, List.getElem?_eq_getElem hj, hw, getI_of (List.getElem?_eq_getElem hj), ?_⟩
        · have : mea l (edge x (j : Int) s) = m := by rw [c3]; exact b3
          unfold mea at this
          omega
        · unfold edge
          rw [Int.toNat_natCast, getD_some hw, getD_some (List.getElem?_eq_getElem hj)]
      have hb0 : SB l b x m 0 (S, Q) := ⟨hS, hQ', hmQ, ⟨v, hv, hv0⟩, hQl⟩
      have r1 := rng_rangeM (mk := fun s : List Int × List Int => s) (body := fun (j40 : Int) (x41 : Int) (⟨l27, l30⟩ : List Int × List Int) => (Option.bind (getI l27 x41) fun y14_2 => (bif decide (y14_2 < 0) then (Option.bind (getI l27 (x : Int)) fun y15_4 => (Option.bind (appG (eI .i64) l30 ([x41] : List Int)) fun y16_3 => some (.inl ((List.set l27 (Int.toNat x41) (wr (y15_4 + 1))), y16_3)))) else some (.inl (l27, l30)))))
        (fin := fun (⟨l27, l30⟩ : List Int × List Int) => some (l27, l30)) (fun _ q s => edge x q s) (SB l b x m) (vWith l l[x]) (fun i q s hq hb => by
          obtain ⟨h1, j, u, w, rfl, hu, hw, hgu, he⟩ := step i q s hq hb
          refine ⟨?_, h1⟩
          obtain ⟨S', Q'⟩ := s
          simp only at hu hw hgu he
          have hQ5 : Q'.length ≤ 1000 := hb.2.2.2.2
          simp only [hgu, bind_some, getI_of hw, appI (show Q'.length ≤ 1000000 by omega), he]
          by_cases c : u < 0 <;> simp [c]) (vWith l l[x]) 0 (S, Q) rfl hb0
      have r2 := rng_rangeM (mk := fun s : List Int × List Int => (s.1, (x : Int) :: s.2)) (body := fun (j31 : Int) (x32 : Int) (⟨l18, l21⟩ : List Int × List Int) => (Option.bind (getI l18 x32) fun y11_2 => (bif decide (y11_2 < 0) then (Option.bind (getI l21 0) fun y12_4 => (Option.bind (getI l18 y12_4) fun y12_6 => (Option.bind (appG (eI .i64) l21 ([x32] : List Int)) fun y13_3 => some (.inl ((List.set l18 (Int.toNat x32) (wr (y12_6 + 1))), y13_3))))) else some (.inl (l18, l21)))))
        (fin := fun (⟨l18, l21⟩ : List Int × List Int) => some (l18, l21)) (fun _ q s => edge x q s) (SB l b x m) (vWith l l[x]) (fun i q s hq hb => by
          obtain ⟨h1, j, u, w, rfl, hu, hw, hgu, he⟩ := step i q s hq hb
          refine ⟨?_, h1⟩
          obtain ⟨S', Q'⟩ := s
          simp only at hu hw hgu he
          have hQ5 : Q'.length ≤ 1000 := hb.2.2.2.2
          have h0 : getI ((x : Int) :: Q') 0 = some (x : Int) := rfl
          simp only [hgu, bind_some, h0, getI_of hw, appI (show ((x : Int) :: Q').length ≤ 1000000 by rw [List.length_cons]; omega), he]
          by_cases c : u < 0 <;> simp [c]) (vWith l l[x]) 0 (S, Q) rfl hb0
      obtain ⟨e1, e2, e3, _, e5⟩ := r1.2
      obtain ⟨S', hS', hl'⟩ := ih _ e1 e2 e3 (by omega)
      refine ⟨S', hS', fun fu hf => ?_⟩
      obtain ⟨f, rfl⟩ : ∃ f, fu = f + 1 := ⟨fu - 1, by omega⟩
      obtain ⟨l1, l2⟩ := hl' f (by omega)
      have d : decide (((((x : Int) :: Q).length : Nat) : Int) > 0) = true := decide_eq_true (by rw [List.length_cons]; omega)
      have h0 : getI ((x : Int) :: Q) 0 = some (x : Int) := rfl
      have cut : ∀ (z : Int) (Q : List Int), cutS (z :: Q) 1 (((z :: Q).length : Nat) : Int) = some Q := fun z Q => by
        unfold cutS
        rw [List.length_cons, if_pos (by omega)]
        congr 1
        rw [show (Int.toNat 1) = 1 from rfl, List.drop_succ_cons, List.drop_zero, List.take_of_length_le (by omega)]
      refine ⟨?_, ?_⟩
      · rw [loopM_succ]
        dsimp only
        rw [d, cond_true, h0, bind_some, cut, bind_some, s_prWith_eq hg (getI_of hx) (by omega) hk, bind_some]
        refine (congrArg (fun o => Option.bind (Option.bind o _) _) r1.1).trans ?_
        exact l1
      · rw [loopM_succ]
        dsimp only
        rw [d, cond_true, h0, bind_some, i_pairsWith_eq hg (getI_of hx) (by omega) hk, bind_some]
        refine (congrArg (fun o => Option.bind (Option.bind o _) _) r2.1).trans ?_
        simp only [bind_some, cut]
        exact l2
/-! ### The way back -/
theorem find_fst {α : Type} {p : α → Bool} : ∀ {L : List α} {z : α} (j : Nat), L.find? p = some z → ∃ q : Nat, fst_ p L j (-1) = ((j + q : Nat) : Int) ∧ L[q]? = some z
  | [], z, j, h => by cases h
  | x :: L, z, j, h => by
    unfold fst_
    rw [List.find?_cons] at h
    cases c : p x
    · rw [c] at h
      obtain ⟨q, h1, h2⟩ := find_fst (j + 1) h
      exact ⟨q + 1, by simp only [Bool.false_eq_true, if_false, h1]; congr 1; omega, by simpa using h2⟩
    · rw [c] at h
      exact ⟨0, by simp, by simpa using h⟩
theorem find_range {S : List Int} {now : Int} {w : Int} {p : Int → Bool} (hw : getI S now = some w) : ∀ {L : List Int} {z : Int} (j : Nat), (∀ y ∈ L, ∃ u, getI S y = some u ∧ (u == wr (w - 1)) = p y) → L.find? p = some z →
    rangeM (fun (j15 : Int) (x16 : Int) (_ : Unit) => (Option.bind (getI S x16) fun y12_2 => (Option.bind (getI S now) fun y12_6 => (bif (y12_2 == (wr (y12_6 - 1))) then some (.inr x16) else some (.inl ()))))) (fun _ => some now) L j () = some z
  | [], z, j, _, h => by cases h
  | x :: L, z, j, hp, h => by
    obtain ⟨u, hu, he⟩ := hp x List.mem_cons_self
    rw [List.find?_cons] at h
    have hstep : (Option.bind (getI S x) fun y12_2 => (Option.bind (getI S now) fun y12_6 => (bif (y12_2 == (wr (y12_6 - 1))) then some (Sum.inr x) else some (Sum.inl ()) : Option (Unit ⊕ Int)))) = (bif p x then some (Sum.inr x) else some (Sum.inl ())) := by
      rw [hu, bind_some, hw, bind_some, he]
    rw [rangeM_cons, hstep]
    cases c : p x
    · rw [c] at h
      exact find_range hw (j + 1) (fun y hy => hp y (List.mem_cons_of_mem _ hy)) h
    · rw [c] at h
      simp at h
      rw [h]
      rfl
theorem wayback {k : Nat} {l : List Sign} {S : List Int} {b : Int} {bn : Nat} (hb : b = (bn : Int)) (hS : SI l bn S) (hg : ∀ s ∈ l, gSign s = true) (hl : l.length ≤ 16) (hk : 10 ≤ k) : ∀ (m : Nat) (a : Nat) (out : List Int), S[a]? = some (m : Int) → out.length + m ≤ 1000 →
    ∃ o, o.length ≤ 1000 ∧ ∀ fu, m < fu → loopM (fun (⟨n4, l5⟩ : Int × List Int) => (bif (n4 != b) then (Option.bind (X.s_prWith k l n4) fun v9_2 => (Option.bind (rangeM (fun (j15 : Int) (x16 : Int) _ => (Option.bind (getI S x16) fun y12_2 => (Option.bind (getI S n4) fun y12_6 => (bif (y12_2 == (wr (y12_6 - 1))) then some (.inr x16) else some (.inl ()))))) (fun _ => some n4) v9_2 0 ()) fun n13 => (Option.bind (appG (eI .i64) l5 ([n13] : List Int)) fun y15_3 => some (.inl (n13, y15_3))))) else some (.inr l5))) fu ((a : Int), out) = some o ∧ loopM (fun (⟨l38, s41⟩ : List Int × Int) => (bif (s41 != b) then (Option.bind (X.i_pairsWith k l s41) fun v20_2 => (Option.bind (X.slices_IndexFunc_int_int v20_2 (X.i_StepsBetween_1 S s41)) fun v21_3 => (Option.bind (getI v20_2 v21_3) fun y21_4 => (Option.bind (appG (eI .i64) l38 ([y21_4] : List Int)) fun y22_3 => some (.inl (y22_3, y21_4)))))) else some (.inr (l38, s41)))) fu (out, (a : Int)) = some (o, b) := by
  intro m
  induction m with
  | zero =>
    intro a out ha ho
    have e : a = bn := hS.zero a ha
    refine ⟨out, by omega, fun fu hf => ?_⟩
    obtain ⟨f, rfl⟩ : ∃ f, fu = f + 1 := ⟨fu - 1, by omega⟩
    have hne : ((a : Int) != b) = false := by rw [hb, e]; simp
    exact ⟨by rw [loopM_succ]; dsimp only; rw [hne]; rfl, by rw [loopM_succ]; dsimp only; rw [hne, e, ← hb]; rfl⟩
  | succ m ih =>
    intro a out ha ho
    have hal : a < l.length := by rw [← hS.len]; exact (List.getElem?_eq_some_iff.1 ha).1
    have hx : l[a]? = some l[a] := List.getElem?_eq_getElem hal
    obtain ⟨j, hj, haj⟩ := hS.back a _ ha (by omega)
    have hlow := hS.low a _ ha
    have hnn := nn_le S
    rw [hS.len] at hnn
    have w1 : wr (((m + 1 : Nat) : Int) - 1) = (m : Int) := by rw [wr_of (by omega) (by omega)]; omega
    have hpp : ∀ y ∈ vWith l l[a], ∃ u, getI S y = some u ∧ (u == wr (((m + 1 : Nat) : Int) - 1)) = (fun y : Int => decide (S.getD y.toNat 0 = (m : Int))) y := by
      intro y hy
      obtain ⟨q, rfl, hq⟩ := (mem_vWith hx).1 hy
      obtain ⟨_, y1, _, hy1, _⟩ := hq
      have hql : q < S.length := by rw [hS.len]; exact (List.getElem?_eq_some_iff.1 hy1).1
      refine ⟨S[q], getI_of (List.getElem?_eq_getElem hql), ?_⟩
      rw [w1]
      dsimp only
      rw [Int.toNat_natCast, getD_some (List.getElem?_eq_getElem hql), beq_dec]
    have hex : ∃ z, (vWith l l[a]).find? (fun y : Int => decide (S.getD y.toNat 0 = (m : Int))) = some z := by
      have : ((vWith l l[a]).find? (fun y : Int => decide (S.getD y.toNat 0 = (m : Int)))).isSome = true := by
        rw [List.find?_isSome]
        refine ⟨(j : Int), (mem_vWith hx).2 ⟨j, rfl, haj⟩, ?_⟩
        rw [Int.toNat_natCast, getD_some hj]
        simp
      exact Option.isSome_iff_exists.1 this
    obtain ⟨z, hz⟩ := hex
    obtain ⟨q, rfl, hq⟩ := (mem_vWith hx).1 (List.mem_of_find?_eq_some hz)
    have hzv := List.find?_some hz
    obtain ⟨_, y1, _, hy1, _⟩ := hq
    have hql : q < S.length := by rw [hS.len]; exact (List.getElem?_eq_some_iff.1 hy1).1
    have hqm : S[q]? = some (m : Int) := by
      have : S.getD q 0 = (m : Int) := by simpa using hzv
      rw [getD_some (List.getElem?_eq_getElem hql)] at this
      rw [List.getElem?_eq_getElem hql, this]
    obtain ⟨o, ho', hlo⟩ := ih q (out ++ [(q : Int)]) hqm (by rw [List.length_append, List.length_singleton]; omega)
    refine ⟨o, ho', fun fu hf => ?_⟩
    obtain ⟨f, rfl⟩ : ∃ f, fu = f + 1 := ⟨fu - 1, by omega⟩
    obtain ⟨l1, l2⟩ := hlo f (by omega)
    have hne : ((a : Int) != b) = true := by
      rw [hb]
      have : a ≠ bn := fun e => by
        subst e
        rw [hS.at0] at ha
        have := Option.some.inj ha
        omega
      simp
      omega
    refine ⟨?_, ?_⟩
    · rw [loopM_succ]
      dsimp only
      rw [hne, cond_true, s_prWith_eq hg (getI_of hx) (by omega) hk, bind_some, find_range (getI_of ha) 0 hpp hz, bind_some, appI (by omega), bind_some, bind_some]
      exact l1
    · obtain ⟨qi, h1, h2⟩ := find_fst 0 hz
      rw [loopM_succ]
      dsimp only
      have hix : X.slices_IndexFunc_int_int (vWith l l[a]) (X.i_StepsBetween_1 S (a : Int)) = some (fst_ (fun y : Int => decide (S.getD y.toNat 0 = (m : Int))) (vWith l l[a]) 0 (-1)) := by
        refine fst_gen _ _ _ 0 fun y hy => ?_
        obtain ⟨u, hu, he⟩ := hpp y hy
        unfold X.i_StepsBetween_1
        rw [hu, bind_some, getI_of ha, bind_some, he]
      rw [hne, cond_true, i_pairsWith_eq hg (getI_of hx) (by omega) hk, bind_some, hix, bind_some, h1, Nat.zero_add, getI_of h2, bind_some, appI (by omega), bind_some, bind_some]
      exact l2
theorem rep16_eq {k n : Nat} (hn : n ≤ 16) (hk : 20 ≤ k) : X.slices_Repeat_int_int k [-1] (n : Int) = some (List.replicate n (-1)) := by
  obtain ⟨m, rfl⟩ : ∃ m, k = m + 20 := ⟨k - 20, by omega⟩
  have : n = 0 ∨ n = 1 ∨ n = 2 ∨ n = 3 ∨ n = 4 ∨ n = 5 ∨ n = 6 ∨ n = 7 ∨ n = 8 ∨ n = 9 ∨ n = 10 ∨ n = 11 ∨ n = 12 ∨ n = 13 ∨ n = 14 ∨ n = 15 ∨ n = 16 := by omega
  rcases this with rfl | rfl | rfl | rfl | rfl | rfl | rfl | rfl | rfl | rfl | rfl | rfl | rfl | rfl | rfl | rfl | rfl <;> rfl
theorem minus_eq : ∀ (l : List Sign) (j : Nat) (acc : List Int), acc.length + l.length ≤ 1000 → rangeM (fun (j8 : Int) (x9 : Sign) l1 => (Option.bind (appG (eI .i64) l1 ([(-1)] : List Int)) fun y4_2 => some (.inl y4_2))) (fun l1 => some l1) l j acc = some (acc ++ List.replicate l.length (-1))
  | [], j, acc, _ => by rw [rangeM_nil]; simp
  | x :: l, j, acc, h => by
    rw [List.length_cons] at h
    rw [rangeM_cons, appI (by omega), bind_some, bind_some]
    dsimp only
    rw [minus_eq l (j + 1) _ (by rw [List.length_append, List.length_singleton]; omega), List.append_assoc, List.length_cons, List.replicate_succ]
    rfl
theorem start_inv {l : List Sign} {b : Nat} (hb : b < l.length) : SI l b ((List.replicate l.length (-1 : Int)).set b 0) ∧ QI ((List.replicate l.length (-1 : Int)).set b 0) [(b : Int)] ∧ mea l ((List.replicate l.length (-1 : Int)).set b 0, [(b : Int)]) ≤ l.length + 1 := by
  have hbl : b < (List.replicate l.length (-1 : Int)).length := by simpa using hb
  have h0 : ((List.replicate l.length (-1 : Int)).set b 0)[b]? = some 0 := List.getElem?_set_self hbl
  have hn : nn ((List.replicate l.length (-1 : Int)).set b 0) = nn (List.replicate l.length (-1 : Int)) + 1 := nn_set (k := b) (u := -1) (by simp [hb]) (by omega) (by omega)
  have ho : ∀ (i : Nat) v, ((List.replicate l.length (-1 : Int)).set b 0)[i]? = some v → i ≠ b → v = -1 := by
    intro i v hi hne
    rw [List.getElem?_set_ne (Ne.symm hne), List.getElem?_replicate] at hi
    split at hi
    · exact (Option.some.inj hi).symm
    · cases hi
  refine ⟨⟨by simp, fun i v hi => ?_, fun i v hi hv => ?_, fun i hi => ?_, h0⟩, fun z hz => ?_, ?_⟩
  · rw [hn]
    by_cases e : i = b
    · subst e
      rw [h0] at hi
      have := Option.some.inj hi
      omega
    · have := ho i v hi e
      omega
  · by_cases e : i = b
    · subst e
      rw [h0] at hi
      have := Option.some.inj hi
      omega
    · have := ho i v hi e
      omega
  · by_cases e : i = b
    · exact e
    · have := ho i 0 hi e
      omega
  · rw [List.mem_singleton] at hz
    exact ⟨b, 0, hz, h0, by omega⟩
  · unfold mea
    simp only [List.length_singleton]
    omega
theorem in_idx {n : Nat} {z : Int} (hn : n ≤ 1048576) (h : inR z 0 (wr ((n : Int) - 1)) = true) : ∃ q : Nat, z = (q : Int) ∧ q < n := by
  rw [wr_of (by omega) (by omega), inR_iff] at h
  exact ⟨z.toNat, by omega, by omega⟩
theorem steps_both {k : Nat} {l : List Sign} {a b : Int} (hs : ∀ s ∈ l, smallS s) (hl : l.length ≤ 1048576) (hk : 2000010 ≤ k) : ∃ v : List Int × Bool, X.i_StepsBetween k l a b = some v ∧ X.s_StepsBetween k l a b = some v ∧ v.1.length ≤ 1048576 := by
  unfold X.i_StepsBetween X.s_StepsBetween X.s_prIndex X.s_prSteps
  rw [i_areSigns_eq hs (by omega), i_within_eq, i_within_eq, s_noList_eq hs hk, s_l1In_eq, s_l1In_eq, show ((16 : Int)) = ((16 : Nat) : Int) from rfl, len16]
  cases h1 : l.all gSign <;> cases h2 : decide (l.length ≤ 16) <;> cases h3 : inR a 0 (wr ((l.length : Int) - 1)) <;> cases h4 : inR b 0 (wr ((l.length : Int) - 1)) <;> simp only [Bool.true_and, Bool.false_and, Bool.and_true, Bool.and_false, Bool.and_self, Bool.not_true, Bool.not_false, cond_true, cond_false, bind_some, if_true, Bool.false_eq_true, if_false] <;> try exact ⟨_, rfl, rfl, by simp⟩
  have hg : ∀ s ∈ l, gSign s = true := by simpa using h1
  have h16 : l.length ≤ 16 := by simpa using h2
  obtain ⟨an, rfl, ha⟩ := in_idx hl h3
  obtain ⟨bn, rfl, hb⟩ := in_idx hl h4
  rw [rep16_eq h16 (by omega), minus_eq l 0 [] (by simp; omega)]
  simp only [bind_some, List.nil_append]
  have gb : getI (List.replicate l.length (-1 : Int)) (bn : Int) = some (-1) := getI_of (by simp [hb])
  simp only [gb, bind_some, Int.toNat_natCast]
  obtain ⟨i1, i2, i3⟩ := start_inv hb
  obtain ⟨S, hS, hL⟩ := bfs (k := k) hg h16 (by omega) _ ((List.replicate l.length (-1 : Int)).set bn 0, [(bn : Int)]) i1 i2 rfl (by omega)
  obtain ⟨L1, L2⟩ := hL k (by omega)
  have haS : S[an]? = some (S[an]'(by rw [hS.len]; exact ha)) := List.getElem?_eq_getElem (by rw [hS.len]; exact ha)
  have hlow := hS.low an _ haS
  have hnn := nn_le S
  rw [hS.len] at hnn
  generalize S[an]'(by rw [hS.len]; exact ha) = v at haS hlow
  refine ⟨if v < 0 then ([], false) else (match loopM (fun (⟨n4, l5⟩ : Int × List Int) => (bif (n4 != (bn : Int)) then (Option.bind (X.s_prWith k l n4) fun v9_2 => (Option.bind (rangeM (fun (j15 : Int) (x16 : Int) _ => (Option.bind (getI S x16) fun y12_2 => (Option.bind (getI S n4) fun y12_6 => (bif (y12_2 == (wr (y12_6 - 1))) then some (.inr x16) else some (.inl ()))))) (fun _ => some n4) v9_2 0 ()) fun n13 => (Option.bind (appG (eI .i64) l5 ([n13] : List Int)) fun y15_3 => some (.inl (n13, y15_3))))) else some (.inr l5))) k ((an : Int), [(an : Int)]) with | some o => (o, true) | none => ([], true)), ?_⟩
  by_cases c : v < 0
  · rw [if_pos c]
    refine ⟨?_, ?_, by simp⟩
    · refine (congrArg (fun o => Option.bind o _) L2).trans ?_
      simp only [bind_some, getI_of haS, show decide (v < 0) = true from decide_eq_true c, cond_true]
    · refine (congrArg (fun o => Option.bind (Option.bind o _) _) L1).trans ?_
      simp only [bind_some, getI_of haS, show decide (v < 0) = true from decide_eq_true c, cond_true]
  · rw [if_neg c]
    obtain ⟨m, rfl⟩ : ∃ m : Nat, v = (m : Int) := ⟨v.toNat, by omega⟩
    obtain ⟨o, ho, hw⟩ := wayback (k := k) rfl hS hg h16 (by omega) m an [(an : Int)] haS (by simp; omega)
    obtain ⟨w1, w2⟩ := hw k (by omega)
    rw [w1]
    refine ⟨?_, ?_, by simp only; omega⟩
    · refine (congrArg (fun o => Option.bind o _) L2).trans ?_
      simp only [bind_some, getI_of haS, show decide ((m : Int) < 0) = false from decide_eq_false c, cond_false]
      refine (congrArg (fun o => Option.bind o _) w2).trans ?_
      rfl
    · refine (congrArg (fun o => Option.bind (Option.bind o _) _) L1).trans ?_
      simp only [bind_some, getI_of haS, show decide ((m : Int) < 0) = false from decide_eq_false c, cond_false]
      refine (congrArg (fun o => Option.bind o _) w1).trans ?_
      rfl
theorem Pure.FnExactStepsBetween (l : List Sign) (o_l : okL okSign l) (a : Int) (o_a : okI a) (b : Int) (o_b : okI b) : X.l_FnExactStepsBetween 3000000 l a b = some true := by
  unfold X.l_FnExactStepsBetween
  obtain ⟨r0, hr0, d0⟩ := szSignS_eq (l := l) (z := 1048576) o_l (by omega) (by omega)
  rw [hr0, bind_some]
  rcases d0 with d0 | ⟨n_l, h_l, p0, q0⟩
  · have : decide (r0 < 0) = true := by simpa using d0
    rw [this]
    rfl
  have e0 : decide (r0 < 0) = false := by simpa using p0
  rw [e0, cond_false]
  obtain ⟨v, hi, hs, hlen⟩ := steps_both (k := 3000000) (a := a) (b := b) h_l n_l (by omega)
  have hvl : (v).1.length ≤ 1048576 := hlen
  have hpr : decide (1 + 1 * ((v).1.length : Int) < 0) = false := by simp; omega
  have hpa : decide (1 + 27 * (l.length : Int) < 0) = false := by simp; omega
  simp only [toSignS_eq n_l,
    eqSignS_eq n_l,
    bind_some,
    hi,
    hs,
    eqIntS_eq hvl,
    markIntS_eq (show (0 : Int) ≤ 1 by omega) (show (1 : Int) ≤ 1000000000000 by omega) hvl,
    heldIntS_eq (show (0 : Int) ≤ 1 by omega) (show (1 : Int) ≤ 1000000000000 by omega) hvl,
    hpr,
    markSignS_eq (k := 1) (show (0 : Int) ≤ 1 by omega) (show (1 : Int) ≤ 1000000000000 by omega) n_l,
    hpa]
  simp
end Go.Proofs.XC
