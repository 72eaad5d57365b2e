/- Rules by which a function of the given program is walked symbolically: no claim by itself. By AI agents; no person has read it. -/
import Derived.Test.YtjjhlccjfdcfcaaGreatDoorCore
import Derived.Sort.OwnSorted
import Derived.Lib.LaidTab
import Derived.Lib.ItoaNum
import Derived.Stop.LaidErr
import Derived.MakeChecks
set_option linter.unusedVariables false
set_option linter.unusedSimpArgs false
set_option maxRecDepth 100000
set_option maxHeartbeats 40000000
namespace Go.Proofs.XC
open Go Go.RowKit
variable {P : Program} {f : FuncId} {fn : Func} {R : Ending → World → Prop} {M : Nat → Prop} {w0 W W2 : World} {its its0 its' : List Hold} {k : List Item} {rs : List Value} {ops : List Oper} {i kk fuel : Nat} {o : Oper} {listed : Array Bool} {α β : Type} {e : Enc α} {e' : Enc β}
variable {K : List Hold → List Value → Prop}
/-! ### The end of a row is cleared: its front stays -/
theorem e_clr {t el : TypeId} {cl : Call} {x : Operand} {d : Option Tmp} {B : Nat} {A : Option Addr} {n c m : Nat} {l : List α} {q : Nat} (j : Nat) (hq : q < l.length) (hm : m = l.length - q)
    (h : K (sh its j (argW e B el A q c (l.take q))) (pt rs d (.tuple #[])))
    (hj : nh its j = some (argW e B el A n c l) := by rfl)
    (hop : o.op = .call cl := by rfl) (hcl : cl.callee = .builtin .clear := by rfl) (ha : cl.args = #[x] := by rfl) (hat : cl.argTypes = #[t] := by rfl) (hd : o.dst = d := by rfl)
    (hx : ev rs x = .slice (cutA e A c q) m (c - q) := by kernel_rfl) (ht : P.underlying t = some (.slice el) := by kernel_rfl)
    (hz : ((P.info? el).bind (·.zero)).map (fun z => (z.cells.size, z.cells.toList.all (·.oneCell'))) = some (e.sz, true) := by kernel_rfl) : Ex P M w0 its o rs K := by
  refine .value fun W S => ?_
  obtain ⟨ti, zv, hi, hz', hzc, hzo⟩ : ∃ ti zv, P.info? el = some ti ∧ ti.zero = some zv ∧ zv.cells.size = e.sz ∧ zv.cells.toList.all (·.oneCell') = true := by
    cases hi : P.info? el with
    | none => simp [hi] at hz
    | some ti =>
      cases hzz : ti.zero with
      | none => simp [hi, hzz] at hz
      | some zv =>
        simp only [hi, hzz, Option.bind_some, Option.map_some, Option.some.injEq, Prod.mk.injEq] at hz
        exact ⟨ti, zv, rfl, hzz, hz.1, hz.2⟩
  rw [nh_eq] at hj
  obtain ⟨hln, hown⟩ := S.get hj
  subst hln
  subst hm
  rcases hown.2 with ⟨_, h2⟩ | ⟨g, cap, cur, h2, hbg, hh, hnc, hcm, hcs, htk⟩
  · omega
  injection h2 with h2 _ h3
  subst h2
  subst h3
  have hcz : cur.toList.length = cur.size := Array.length_toList
  have hcl : l.length * e.sz ≤ cur.size := by
    rw [hcs]
    exact Nat.mul_le_mul_right _ hnc
  have hcut : cutA e (some ⟨g, 0, none⟩) c q = some ⟨g, q * e.sz, none⟩ := by
    unfold cutA
    rw [if_neg (by omega)]
    have hadd : (⟨g, 0, none⟩ : Addr).add (q * e.sz) = ⟨g, 0 + q * e.sz, none⟩ := by unfold Addr.add; split <;> simp_all
    rw [Option.map_some, hadd, Nat.zero_add]
  have hzl : (Builtin.zeroCells zv.cells (l.length - q)).toList.length = (l.length - q) * e.sz := by
    simp [Builtin.zeroCells, hzc]
  have hfit : q * e.sz + (l.length - q) * e.sz ≤ cur.size := by
    rw [← Nat.add_mul, show q + (l.length - q) = l.length by omega]
    exact hcl
  have hone : ∀ v ∈ (Builtin.zeroCells zv.cells (l.length - q)).toList, v.oneCell' = true := by
    intro v hv
    simp only [Builtin.zeroCells, Array.toList_map, Array.toList_range, List.mem_map, List.mem_range] at hv
    obtain ⟨a, ha, rfl⟩ := hv
    have hp := e.pos
    have hlt : a % zv.cells.size < zv.cells.size := Nat.mod_lt _ (by omega)
    rw [getElem!_pos zv.cells _ hlt]
    exact (List.all_eq_true.1 hzo) _ (by simp)
  have hrun := run_storeCells_at P g (q * e.sz) el (Builtin.zeroCells zv.cells (l.length - q)).toList 0 cur W hh (by rw [hzl]; omega) hone
  have he : cl = { callee := .builtin .clear, args := #[x], argTypes := #[t] } := by
    cases cl
    simp_all
  have hzr : ∀ w, (zeroValue el).run P w = .ok zv w := fun w => by simp [zeroValue, typeInfo, hi, hz']
  obtain ⟨m, hm⟩ : ∃ m, l.length - q = m + 1 := ⟨l.length - q - 1, by omega⟩
  have hlq : (l.take q).length = q := by rw [List.length_take]; omega
  refine ⟨.tuple #[], W.setRow g (cur.toList.take (q * e.sz + 0) ++ (Builtin.zeroCells zv.cells (l.length - q)).toList ++ cur.toList.drop (q * e.sz + 0 + (Builtin.zeroCells zv.cells (l.length - q)).toList.length)).toArray, _, ?_, ?_, by rw [hd]; exact h⟩
  · subst he
    rw [hcut] at hx
    simp only [execOp, hop, resolve, invoke, builtin, Sem.run_bind, Sem.run_pure, Result.andThen_ok, List.map_toArray, List.map_cons, List.map_nil, hx]
    rw [hm] at hrun ⊢
    simp [Builtin.clear_, run_underlying ht, hzr, hrun]
  · rw [sh_eq]
    refine S.upd hj rfl rfl rfl (by simp) (fun k hk hne => setRow_other W g k _ (fun e1 => hne ?_)) (argW_good _ _ _ _ _ _ _) ⟨hlq, ?_⟩ ?_
    · subst e1; rfl
    · refine ⟨by rw [e.flat_length, hlq], .inr ⟨g, c, _, rfl, hbg, setRow_heap W g cur _ el (0, 0) hh, by omega, hcm, ?_, ?_⟩⟩
      · rw [List.size_toArray, List.length_append, List.length_append, List.length_take, List.length_drop, hzl, hcz, Nat.min_eq_left (by omega), hcs]
        rw [hcs] at hfit
        omega
      · rw [List.toList_toArray, List.append_assoc, List.take_append_of_le_length (by rw [List.length_take]; omega), Nat.add_zero, List.take_take, Nat.min_self]
        have h6 : e.flat l = e.flat (l.take q) ++ e.flat (l.drop q) := by rw [← e.flat_app, List.take_append_drop]
        have h7 : (cur.toList.take (l.length * e.sz)).take (q * e.sz) = e.flat (l.take q) := by
          rw [htk, h6, List.take_append_of_le_length (by rw [e.flat_length, hlq]; omega), List.take_of_length_le (by rw [e.flat_length, hlq]; omega)]
        rw [List.take_take, Nat.min_eq_left (Nat.mul_le_mul_right _ (by omega))] at h7
        exact h7
    · intro k hk
      have hk' : (Value.slice (some ⟨g, 0, none⟩) q c).ownBlock = some k := hk
      simp only [Value.ownBlock, Option.some.injEq] at hk'
      subst hk'
      exact ⟨.inl rfl, by simpa using (S.own hj g rfl).2⟩
theorem St.retC {W : World} {B t : Nat} {A : Option Addr} {n n2 c c2 : Nat} {l : List α} (S : St (fun k => (Value.slice A n2 c2).ownBlock = some k) w0 W its) (h : nh its 0 = some (argW e B t A n c l) := by rfl) (hn : l.length = n := by rfl) : RetC e B t A c w0 l (.returned (.slice A n c)) W := by
  subst hn
  rw [nh_eq] at h
  have hF := S.get h
  refine ⟨rfl, hF.2, S.os, S.tape, S.output, S.size, fun k hk hne => S.keep k hk fun h => hne ?_⟩
  rw [← h]
  exact own_any
theorem rd_le {W : World} {A : Option Addr} {c : Nat} {l : List α} (h : RdT e W (.slice A l.length c) l) : l.length ≤ c := by
  obtain ⟨A2, c2, e1, _, _, hc, _⟩ := h
  injection e1 with _ _ e3
  omega
theorem cutA_zero (e : Enc α) (A : Option Addr) (c : Nat) : cutA e A c 0 = A := by
  unfold cutA
  split
  · rfl
  · cases A with
    | none => rfl
    | some a => simp [Addr.add]
theorem cut_end {l : List α} {z : Int} (h0 : 0 ≤ z) (h1 : z < l.length) : cutS l z (l.length : Int) = some (l.drop z.toNat) := by
  unfold cutS
  rw [if_pos (by omega)]
  congr 1
  rw [List.take_of_length_le]
  rw [List.length_drop]
  omega
/-- The front of a slice, whatever its cells hold. -/
theorem y_front {t el : TypeId} {x : Operand} {hi : Option Operand} {A : Option Addr} {n c : Nat} {z : Int} (e : Enc α) (h0 : 0 ≤ z) (h1 : z ≤ n) (h2 : n ≤ c)
    (hop : o.op = .slice t x none hi none := by rfl) (hv : ev rs x = .slice A n c := by kernel_rfl) (hhi : hi_ rs n hi = some z := by kernel_rfl)
    (ht : P.underlying t = some (.slice el) := by kernel_rfl) (hs : (P.info? el).map (fun i => (i.size, i.bytes)) = some (e.sz, e.by_) := by kernel_rfl) : Yd P M w0 its o rs (.slice A z.toNat c) := by
  refine ⟨fun W S => .inl ?_⟩
  obtain ⟨ti, hi2, hsz, _⟩ := ti_of (t := t) hs
  have hlo : lo_ rs none = some 0 := rfl
  have := run_bounds (P := P) (W := W) (b := true) hlo hhi (Int.le_refl 0) h0 h1 h2
  simp only [Option.map_none] at this
  have hc := cutA_zero e A c
  unfold cutA at hc
  simp only [execOp, hop, hv, Instr.sliceAt, Option.map_none]
  unfold Instr.slice
  simp only [Sem.run_bind, run_underlying ht, Result.andThen_ok, this, run_size hi2, hsz, Sem.run_pure]
  rw [show (0 : Int).toNat = 0 from rfl, Nat.sub_zero, Nat.sub_zero, hc]
end Go.Proofs.XC
namespace Go.Proofs.XC
open Go Go.RowKit
variable {P : Program} {f : FuncId} {fn : Func} {R : Ending → World → Prop} {M : Nat → Prop} {w0 W W2 : World} {its its0 its' : List Hold} {k : List Item} {rs : List Value} {ops : List Oper} {i kk fuel : Nat} {o : Oper} {listed : Array Bool} {α β : Type} {e : Enc α} {e' : Enc β}
variable {K : List Hold → List Value → Prop}
/-! ### append, by itself -/
theorem app_run {B : Nat} {t ty el : TypeId} {A A2 : Option Addr} {c c2 : Nat} {l m : List α} (hown : W.ownsRow B el e.sz (.slice A l.length c) l.length (e.flat l)) (hrd : RdT e W (.slice A2 m.length c2) m) (hB : B ≤ W.heap.size)
    (hby : (l.length + m.length) * e.by_ ≤ 140737488355328) (ht : P.underlying t = some (.slice el))
    (hs : (P.info? el).map (fun i => (i.size, i.bytes)) = some (e.sz, e.by_)) (hz : ((P.info? el).bind (·.zero)).map (·.cells.size) = some e.sz) (hb : Nat.ble 1 e.by_ = true) :
    ∃ A' c' w', (Builtin.append_ #[t, t] ty #[.slice A l.length c, .slice A2 m.length c2]).run P W = .ok (.slice A' (l ++ m).length c') w' ∧ w'.ownsRow B el e.sz (.slice A' (l ++ m).length c') (l ++ m).length (e.flat (l ++ m)) ∧ W.grownBy w' (Value.slice A l.length c).ownBlock ∧ ((Value.slice A' (l ++ m).length c').ownBlock = (Value.slice A l.length c).ownBlock ∨ (Value.slice A' (l ++ m).length c').ownBlock = some W.heap.size) := by
  obtain ⟨ti, hi, hsz, hbb⟩ := ti_of (t := t) hs
  have hz' : ∃ zv, ti.zero = some zv ∧ zv.cells.size = e.sz := by
    cases hzz : ti.zero with
    | none => simp [hi, hzz] at hz
    | some zv => exact ⟨zv, rfl, by simpa [hi, hzz] using hz⟩
  obtain ⟨zv, hz', hzc⟩ := hz'
  have hb' := Nat.le_of_ble_eq_true hb
  have hle : l.length + m.length ≤ 140737488355328 := Nat.le_trans (Nat.le_mul_of_pos_right _ hb') hby
  obtain ⟨A3, c3, e1, _, _, _, h4⟩ := hrd
  injection e1 with e1 _ e3
  subst e1
  subst e3
  have key : ∃ v' w', (Builtin.append_ #[t, t] ty #[.slice A l.length c, .slice A2 m.length c2]).run P W = .ok v' w' ∧ w'.ownsRow B el e.sz v' (l.length + m.length) (e.flat l ++ e.flat m) ∧ W.grownBy w' (Value.slice A l.length c).ownBlock ∧ (v'.ownBlock = (Value.slice A l.length c).ownBlock ∨ v'.ownBlock = some W.heap.size) := by
    by_cases hm0 : m.length = 0
    · have hm : m = [] := List.eq_nil_of_length_eq_zero hm0
      subst hm
      cases A2 with
      | none =>
        refine ⟨.slice A l.length c, W, run_append_zero ht hi hsz hown c2, ?_, ⟨rfl, rfl, rfl, Nat.le_refl _, fun _ _ _ => rfl⟩, .inl rfl⟩
        simpa [Enc.flat] using hown
      | some ad =>
        obtain ⟨v', w', h1, h2, h3, _, h5⟩ := run_append_own_at (P := P) W B t ty el ti zv e.sz e.by_ ht hi hz' hsz hbb hzc e.pos _ l.length (e.flat l) hown ad 0 c2 [] (by simp) (by simp) (by simp) (by simp only [maxLen]; simp at hle; omega) (by simpa using hby) hB
        exact ⟨v', w', h1, by simpa [Enc.flat] using h2, h3, h5⟩
    · obtain ⟨b, off, rfl, hbk, hc⟩ := h4 (by omega)
      obtain ⟨v', w', h1, h2, h3, _, h5⟩ := run_append_own_at (P := P) W B t ty el ti zv e.sz e.by_ ht hi hz' hsz hbb hzc e.pos _ l.length (e.flat l) hown ⟨b, off, none⟩ m.length c2 (e.flat m) (e.flat_length m) (fun j u hj => by
        have hadd : (⟨b, off, none⟩ : Addr).add j = ⟨b, off + j, none⟩ := by unfold Addr.add; split <;> simp_all
        rw [hadd]
        exact hc j u hj) (e.flat_one m) (by simp only [maxLen]; omega) hby hB
      exact ⟨v', w', h1, h2, h3, h5⟩
  obtain ⟨v', W', hrun, hown', hgr, hbl⟩ := key
  obtain ⟨A', c', rfl⟩ := own_form hown'
  have hql : (l ++ m).length = l.length + m.length := List.length_append
  refine ⟨A', c', W', ?_, ?_, hgr, ?_⟩
  · rw [hql]; exact hrun
  · rw [hql, e.flat_app]; exact hown'
  · rw [hql]; exact hbl
/-! ### append to an inner row: the row of rows then holds the new slice in that place (once it is stored there) -/
theorem Inn.put {B t : Nat} {W W' : World} {us : List Sl} {ls : List (List α)} {z : Int} {s s' : Sl} {l l' : List α} (h : Inn e B t W us ls) (hs : getI us z = some s) (hl : getI ls z = some l) (hn : s'.n = l'.length)
    (hr : W'.ownsRow B t e.sz (.slice s'.A l'.length s'.c) l'.length (e.flat l')) (hk : ∀ k, k < W.heap.size → s.v.ownBlock ≠ some k → W'.heap[k]? = W.heap[k]?)
    (ho : s'.v.ownBlock = s.v.ownBlock ∨ s'.v.ownBlock = some W.heap.size) : Inn e B t W' (us.set z.toNat s') (ls.set z.toNat l') := by
  have hz := (getI_some hs).2.2
  have hlz := (getI_some hl).2.2
  have hlt : ∀ (i : Nat) q k, us[i]? = some q → q.v.ownBlock = some k → k < W.heap.size := fun i q k hq hk' => by
    have hi : i < ls.length := by rw [← h.len]; exact (List.getElem?_eq_some_iff.1 hq).1
    obtain ⟨h1, h2⟩ := h.row i q _ hq (List.getElem?_eq_getElem hi)
    refine (h2.lt k ?_).2
    rw [← hk']
    exact own_any
  have hap : ∀ (i : Nat) q k, i ≠ z.toNat → us[i]? = some q → q.v.ownBlock = some k → s'.v.ownBlock ≠ some k := fun i q k hi hq hk' he => by
    rcases ho with h1 | h1
    · exact h.apart i z.toNat q s k hi hq hz hk' (by rw [← h1]; exact he)
    · rw [h1] at he
      injection he with he
      have := hlt i q k hq hk'
      omega
  refine ⟨by rw [List.length_set, List.length_set]; exact h.len, fun i q m hq hm => ?_, fun i j a b k hij ha hb hka => ?_⟩
  · by_cases hi : i = z.toNat
    · subst hi
      rw [List.getElem?_set_self (List.getElem?_eq_some_iff.1 hlz).1] at hm
      rw [List.getElem?_set_self (List.getElem?_eq_some_iff.1 hz).1] at hq
      obtain rfl := Option.some.inj hm
      obtain rfl := Option.some.inj hq
      exact ⟨hn, hr⟩
    · rw [List.getElem?_set_ne (Ne.symm hi)] at hm hq
      obtain ⟨h1, h2⟩ := h.row i q m hq hm
      refine ⟨h1, row_good B t e.sz (.slice q.A m.length q.c) m.length (e.flat m) W W' (fun k hk' => hk k (h2.lt k hk').2 ?_) h2⟩
      have hq' : q.v.ownBlock = some k := by
        unfold Sl.v
        rw [own_any (n' := m.length) (c' := q.c)]
        exact hk'
      exact h.apart i z.toNat q s k hi hq hz hq'
  · by_cases hi : i = z.toNat
    · subst hi
      rw [List.getElem?_set_self (List.getElem?_eq_some_iff.1 hz).1] at ha
      rw [List.getElem?_set_ne hij] at hb
      obtain rfl := Option.some.inj ha
      exact fun hkb => hap j b k (Ne.symm hij) hb hkb hka
    · rw [List.getElem?_set_ne (Ne.symm hi)] at ha
      by_cases hj : j = z.toNat
      · subst hj
        rw [List.getElem?_set_self (List.getElem?_eq_some_iff.1 hz).1] at hb
        obtain rfl := Option.some.inj hb
        exact hap i a k hi ha hka
      · rw [List.getElem?_set_ne (Ne.symm hj)] at hb
        exact h.apart i j a b k hij ha hb hka
theorem e_appI {t el : TypeId} {cl : Call} {x y : Operand} {d : Option Tmp} {A2 : Option Addr} {c2 B : Nat} {us : List Sl} {ls : List (List α)} {z : Int} {u : Sl} {l m q : List α} (j : Nat) (hs0 : getI us z = some u) (hl : getI ls z = some l) (hq : appG e l m = some q) (hB : B ≤ w0.heap.size) (s : Src M w0 its e A2 c2 m)
    (h : ∀ A' c', K (sh its j (inns e B el (us.set z.toNat ⟨A', q.length, c'⟩) (ls.set z.toNat q))) (pt rs d (.slice A' q.length c')))
    (hj : nh its j = some (inns e B el us ls) := by rfl)
    (hop : o.op = .call cl := by rfl) (hcl : cl.callee = .builtin .append := by rfl) (ha : cl.args = #[x, y] := by rfl) (hat : cl.argTypes = #[t, t] := by rfl) (hd : o.dst = d := by rfl)
    (hx : ev rs x = .slice u.A l.length u.c := by kernel_rfl) (hy : ev rs y = .slice A2 m.length c2 := by kernel_rfl) (ht : P.underlying t = some (.slice el) := by kernel_rfl)
    (hs : (P.info? el).map (fun i => (i.size, i.bytes)) = some (e.sz, e.by_) := by kernel_rfl) (hz : ((P.info? el).bind (·.zero)).map (·.cells.size) = some e.sz := by kernel_rfl) (hb : Nat.ble 1 e.by_ = true := by kernel_rfl) : Ex P M w0 its o rs K := by
  refine .value fun W S => ?_
  unfold appG at hq
  split at hq
  case isFalse => cases hq
  rename_i hby
  obtain rfl := Option.some.inj hq
  rw [nh_eq] at hj
  have hin : Inn e B el W us ls := S.get hj
  obtain ⟨hun, hown⟩ := hin.at hs0 hl
  obtain ⟨A', c', W', hrun, hown', hgr, hbl⟩ := app_run (P := P) (ty := o.type) hown (s.out W S) (Nat.le_trans hB S.size) hby ht hs hz hb
  have he : cl = { callee := .builtin .append, args := #[x, y], argTypes := #[t, t] } := by
    cases cl
    simp_all
  have hub : u.v.ownBlock = (Value.slice u.A l.length u.c).ownBlock := own_any
  refine ⟨.slice A' (l ++ m).length c', W', sh its j (inns e B el (us.set z.toNat ⟨A', (l ++ m).length, c'⟩) (ls.set z.toNat (l ++ m))), ?_, ?_, by rw [hd]; exact h _ _⟩
  · subst he
    simp only [execOp, hop, resolve, invoke, builtin, Sem.run_bind, Sem.run_pure, Result.andThen_ok, List.map_toArray, List.map_cons, List.map_nil, hx, hy, hrun]
  · rw [sh_eq]
    have hin' := hin.put (s' := ⟨A', (l ++ m).length, c'⟩) hs0 hl rfl hown' (fun k hk hne => hgr.block k hk fun e1 => hne (by rw [hub]; exact e1.symm)) (by rw [hub]; exact hbl)
    refine S.upd hj hgr.os hgr.tape hgr.output hgr.size (fun k hk hne => hgr.block k hk fun e1 => hne ⟨u, List.mem_of_getElem? (getI_some hs0).2.2, by rw [hub]; exact e1.symm⟩) (inns_good _ _ _ _ _) hin' fun k hk => ?_
    obtain ⟨s2, hs2, hk2⟩ := hk
    rcases List.mem_or_eq_of_mem_set hs2 with h1 | h1
    · exact ⟨.inl ⟨s2, h1, hk2⟩, Nat.lt_of_lt_of_le (S.own hj k ⟨s2, h1, hk2⟩).2 hgr.size⟩
    · subst h1
      refine ⟨?_, (hown'.lt k hk2).2⟩
      rcases hbl with h1 | h1
      · left
        refine ⟨u, List.mem_of_getElem? (getI_some hs0).2.2, ?_⟩
        rw [hub, ← h1]
        exact hk2
      · right
        have hk3 : (Value.slice A' (l ++ m).length c').ownBlock = some k := hk2
        rw [hk3] at h1
        injection h1 with h1
        omega
end Go.Proofs.XC
namespace Go.Proofs.XC
open Go Go.RowKit
variable {P : Program} {f : FuncId} {fn : Func} {R : Ending → World → Prop} {M : Nat → Prop} {w0 W W2 : World} {its its0 its' : List Hold} {k : List Item} {rs : List Value} {ops : List Oper} {i kk fuel : Nat} {o : Oper} {listed : Array Bool} {α β : Type} {e : Enc α} {e' : Enc β}
variable {K : List Hold → List Value → Prop}
/-! ### Parts of rows of the call's own: cut at either end, clipped -/
def ownsX (W : World) (B t sz : Nat) (v : Value) (n : Nat) (cs : List Value) : Prop :=
  cs.length = n * sz ∧ ((v = .slice none 0 0 ∧ n = 0) ∨ ∃ g q c cur, v = .slice (some ⟨g, q, none⟩) n c ∧ B ≤ g ∧ W.heap[g]? = some (.cells cur t (0, 0)) ∧ n ≤ c ∧ c ≤ maxLen ∧ q + c * sz ≤ cur.size ∧ (cur.toList.drop q).take (n * sz) = cs)
theorem ownsX_of {B t sz n : Nat} {v : Value} {cs : List Value} (h : W.ownsRow B t sz v n cs) : ownsX W B t sz v n cs := by
  refine ⟨h.1, ?_⟩
  rcases h.2 with h2 | ⟨g, c, cur, rfl, hb, hh, hnc, hm, hcs, ht⟩
  · exact .inl h2
  · exact .inr ⟨g, 0, c, cur, rfl, hb, hh, hnc, hm, by omega, by simpa using ht⟩
theorem ownsX_lt {B t sz n : Nat} {v : Value} {cs : List Value} (h : ownsX W B t sz v n cs) : ∀ k, v.ownBlock = some k → B ≤ k ∧ k < W.heap.size := by
  intro k hk
  rcases h.2 with ⟨rfl, _⟩ | ⟨g, q, c, cur, rfl, hb, hh, _⟩
  · simp [Value.ownBlock] at hk
  · simp [Value.ownBlock] at hk
    subst hk
    exact ⟨hb, (Array.getElem?_eq_some_iff.1 hh).1⟩
theorem ownsX_weaken {B B' t sz n : Nat} {v : Value} {cs : List Value} (h : ownsX W B t sz v n cs) (hb : B' ≤ B) : ownsX W B' t sz v n cs := by
  refine ⟨h.1, ?_⟩
  rcases h.2 with h2 | ⟨g, q, c, cur, e1, hb1, r⟩
  · exact .inl h2
  · exact .inr ⟨g, q, c, cur, e1, Nat.le_trans hb hb1, r⟩
theorem ownsX_good {B t sz n : Nat} {v : Value} {cs : List Value} {W' : World} (hk : ∀ k, v.ownBlock = some k → W'.heap[k]? = W.heap[k]?) (h : ownsX W B t sz v n cs) : ownsX W' B t sz v n cs := by
  refine ⟨h.1, ?_⟩
  rcases h.2 with h2 | ⟨g, q, c, cur, rfl, hb, hh, r⟩
  · exact .inl h2
  · exact .inr ⟨g, q, c, cur, rfl, hb, (hk g rfl).trans hh, r⟩
theorem Rd.ofX {B t sz n : Nat} {v : Value} {cs : List Value} (h : ownsX W B t sz v n cs) : Rd W sz v n cs := by
  obtain ⟨h1, h2⟩ := h
  rcases h2 with ⟨rfl, rfl⟩ | ⟨g, q, c, cur, rfl, hb, hh, hnc, hm, hcs, ht⟩
  · exact ⟨none, 0, rfl, h1, by omega, by omega, fun h => by omega⟩
  · refine ⟨_, c, rfl, h1, by simp only [maxLen] at hm; omega, hnc, fun _ => ⟨g, q, rfl, (Array.getElem?_eq_some_iff.1 hh).1, fun j u hj => ?_⟩⟩
    rw [cell_of_row W g (q + j) cur t (0, 0) hh, ← Array.getElem?_toList]
    rw [← ht, List.getElem?_take] at hj
    split at hj
    · rwa [List.getElem?_drop] at hj
    · cases hj
def rowX (e : Enc α) (B t : Nat) (v : Value) (l : List α) : Hold := ⟨fun k => v.ownBlock = some k, fun W => ownsX W B t e.sz v l.length (e.flat l)⟩
theorem rowX_good (B t : Nat) (v : Value) (l : List α) : (rowX e B t v l).good := fun W W' h h2 => ownsX_good h h2
theorem s_ownX {B t : Nat} {A : Option Addr} {c : Nat} {l : List α} (j : Nat) (h : nh its j = some (rowX e B t (.slice A l.length c) l) := by rfl) : Src M w0 its e A c l := by
  rw [nh_eq] at h
  exact ⟨fun W S => .ofX (S.get h)⟩
theorem St.chg {W : World} {j : Nat} {a b : Hold} (S : St M w0 W its) (hj : nh its j = some a) (hg : b.good) (hF : a.F W → b.F W) (ho : ∀ k, b.own k → a.own k) : St M w0 W (sh its j b) := by
  rw [nh_eq] at hj
  rw [sh_eq]
  exact S.upd hj rfl rfl rfl (Nat.le_refl _) (fun _ _ _ => rfl) hg (hF (S.get hj)) fun k hk => ⟨.inl (ho k hk), (S.own hj k (ho k hk)).2⟩
/-- A row becomes one of which parts may be taken. -/
theorem o_toX (j : Nat) {B t : Nat} {v : Value} {l : List α} (h : OS P f R M w0 (sh its j (rowX e B t v l)) k ops i rs) (hj : nh its j = some (rowT e B t v l) := by rfl) : OS P f R M w0 its k ops i rs :=
  ⟨fun W S => h.out W (S.chg hj (rowX_good _ _ _ _) (fun h => ownsX_of h) fun k hk => hk)⟩
theorem c_toX (j : Nat) {B t : Nat} {v : Value} {l : List α} (h : GS P f R M w0 (sh its j (rowX e B t v l)) k rs) (hj : nh its j = some (rowT e B t v l) := by rfl) : GS P f R M w0 its k rs :=
  ⟨fun W S => h.out W (S.chg hj (rowX_good _ _ _ _) (fun h => ownsX_of h) fun k hk => hk)⟩
theorem cutA_block {A : Option Addr} {c a n c' : Nat} : (Value.slice (cutA e A c a) n c').ownBlock = (Value.slice A n c').ownBlock := by
  unfold cutA
  split
  · rfl
  · cases A with
    | none => rfl
    | some x =>
      show some (x.add (a * e.sz)).block = some x.block
      congr 1
      unfold Addr.add
      split
      · rfl
      · rfl
theorem ownsX_cut {B t : Nat} {A : Option Addr} {c : Nat} {l r : List α} {a b : Int} (hr : cutS l a b = some r) (h : ownsX W B t e.sz (.slice A l.length c) l.length (e.flat l)) : ownsX W B t e.sz (.slice (cutA e A c a.toNat) r.length (c - a.toNat)) r.length (e.flat r) := by
  obtain ⟨h0, h1, h2, rfl⟩ := cutS_some hr
  have hl : ((l.drop a.toNat).take (b.toNat - a.toNat)).length = b.toNat - a.toNat := by simp; omega
  refine ⟨e.flat_length _, ?_⟩
  rcases h.2 with ⟨e1, hn⟩ | ⟨g, q, c2, cur, e1, hb, hh, hnc, hm, hcs, ht⟩
  · injection e1 with e1 e2 e3
    subst e1
    subst e3
    have ha : a.toNat = 0 := by omega
    have hlz : ((l.drop a.toNat).take (b.toNat - a.toNat)).length = 0 := by rw [hl]; omega
    refine .inl ⟨?_, hlz⟩
    rw [hlz, Nat.zero_sub]
    unfold cutA
    split <;> rfl
  · injection e1 with e1 _ e3
    subst e1
    subst e3
    have hle : a.toNat ≤ c := by omega
    have hmul : (c - a.toNat) * e.sz + a.toNat * e.sz = c * e.sz := by rw [← Nat.add_mul]; congr 1; omega
    by_cases hca : c = a.toNat
    · refine .inr ⟨g, q, c - a.toNat, cur, ?_, hb, hh, by rw [hl]; omega, by omega, by rw [hca, Nat.sub_self]; omega, ?_⟩
      · unfold cutA; rw [if_pos hca]
      · have hz : ((l.drop a.toNat).take (b.toNat - a.toNat)).length = 0 := by rw [hl]; omega
        rw [hz, Nat.zero_mul, List.take_zero, List.eq_nil_of_length_eq_zero hz]
        rfl
    · have hadd : (⟨g, q, none⟩ : Addr).add (a.toNat * e.sz) = ⟨g, q + a.toNat * e.sz, none⟩ := by unfold Addr.add; split <;> simp_all
      refine .inr ⟨g, q + a.toNat * e.sz, c - a.toNat, cur, ?_, hb, hh, by rw [hl]; omega, by omega, by omega, ?_⟩
      · unfold cutA; rw [if_neg hca, Option.map_some, hadd]
      · rw [hl, ← e.flat_take, ← e.flat_drop, ← ht, List.drop_take, List.drop_drop, List.take_take, Nat.min_eq_left]
        have : (b.toNat - a.toNat) * e.sz + a.toNat * e.sz ≤ l.length * e.sz := by rw [← Nat.add_mul]; exact Nat.mul_le_mul_right _ (by omega)
        omega
theorem o_cutX (j : Nat) {B t : Nat} {A : Option Addr} {c : Nat} {l r : List α} {a b : Int} (hr : cutS l a b = some r) (h : OS P f R M w0 (sh its j (rowX e B t (.slice (cutA e A c a.toNat) r.length (c - a.toNat)) r)) k ops i rs)
    (hj : nh its j = some (rowX e B t (.slice A l.length c) l) := by rfl) : OS P f R M w0 its k ops i rs :=
  ⟨fun W S => h.out W (S.chg hj (rowX_good _ _ _ _) (fun h => ownsX_cut hr h) fun k hk => by
    have hk' : (Value.slice (cutA e A c a.toNat) r.length (c - a.toNat)).ownBlock = some k := hk
    rw [cutA_block] at hk'
    show (Value.slice A l.length c).ownBlock = some k
    rw [← hk']
    exact own_any)⟩
theorem ownsX_clip {B t n : Nat} {A : Option Addr} {c : Nat} {cs : List Value} {sz : Nat} (h : ownsX W B t sz (.slice A n c) n cs) : ownsX W B t sz (.slice A n n) n cs := by
  refine ⟨h.1, ?_⟩
  rcases h.2 with ⟨e1, hn⟩ | ⟨g, q, c2, cur, e1, hb, hh, hnc, hm, hcs, ht⟩
  · subst hn
    injection e1 with e1 _ _
    subst e1
    exact .inl ⟨rfl, rfl⟩
  · injection e1 with e1 _ e3
    subst e1
    subst e3
    exact .inr ⟨g, q, n, cur, rfl, hb, hh, Nat.le_refl _, by omega, Nat.le_trans (Nat.add_le_add_left (Nat.mul_le_mul_right _ hnc) _) hcs, ht⟩
theorem o_clipX (j : Nat) {B t : Nat} {A : Option Addr} {c : Nat} {l : List α} (h : OS P f R M w0 (sh its j (rowX e B t (.slice A l.length l.length) l)) k ops i rs)
    (hj : nh its j = some (rowX e B t (.slice A l.length c) l) := by rfl) : OS P f R M w0 its k ops i rs :=
  ⟨fun W S => h.out W (S.chg hj (rowX_good _ _ _ _) (fun h => ownsX_clip h) fun k hk => by
    show (Value.slice A l.length c).ownBlock = some k
    rw [← (show (Value.slice A l.length l.length).ownBlock = some k from hk)]
    exact own_any)⟩
/-! #### append -/
theorem run_append_roomX {t ty el : TypeId} {i : TypeInfo} (ht : P.underlying t = some (.slice el)) (hi : P.info? el = some i)
    (g q sLen sCap : Nat) (cur : Array Value) (hg : W.heap[g]? = some (.cells cur el (0, 0)))
    (a : Addr) (m c : Nat) (news : List Value) (hl : news.length = m * i.size) (hnews : ∀ j u, news[j]? = some u → W.cell? (a.add j) = some u) (h1 : ∀ u ∈ news, u.oneCell' = true)
    (hroom : sLen + m ≤ sCap) (hfit : q + sLen * i.size + news.length ≤ cur.size) :
    (Builtin.append_ #[t, t] ty #[.slice (some ⟨g, q, none⟩) sLen sCap, .slice (some a) m c]).run P W =
      .ok (.slice (some ⟨g, q, none⟩) (sLen + m) sCap) (W.setRow g (cur.toList.take (q + sLen * i.size) ++ news ++ cur.toList.drop (q + sLen * i.size + news.length)).toArray) := by
  have hf := run_firstCells_some (P := P) W i.size m a m c news hl hnews
  have hst := run_storeCells_at P g (q + sLen * i.size) el news 0 cur W hg (by simpa using hfit) h1
  simp only [Nat.add_zero] at hst
  have hadd : (⟨g, q, none⟩ : Addr).add (sLen * i.size) = ⟨g, q + sLen * i.size, none⟩ := by unfold Addr.add; split <;> simp_all
  simp [Builtin.append_, run_underlying ht, sizeOf, typeInfo, hi, Builtin.lenOf, hroom, hf, hadd, hst]
theorem app_runX {B : Nat} {t ty el : TypeId} {A A2 : Option Addr} {c c2 : Nat} {l m : List α} (hown : ownsX W B el e.sz (.slice A l.length c) l.length (e.flat l)) (hrd : RdT e W (.slice A2 m.length c2) m) (hB : B ≤ W.heap.size)
    (hby : (l.length + m.length) * e.by_ ≤ 140737488355328) (ht : P.underlying t = some (.slice el))
    (hs : (P.info? el).map (fun i => (i.size, i.bytes)) = some (e.sz, e.by_)) (hz : ((P.info? el).bind (·.zero)).map (·.cells.size) = some e.sz) (hb : Nat.ble 1 e.by_ = true) :
    ∃ A' c' w', (Builtin.append_ #[t, t] ty #[.slice A l.length c, .slice A2 m.length c2]).run P W = .ok (.slice A' (l ++ m).length c') w' ∧ ownsX w' B el e.sz (.slice A' (l ++ m).length c') (l ++ m).length (e.flat (l ++ m)) ∧ W.grownBy w' (Value.slice A l.length c).ownBlock ∧ ((Value.slice A' (l ++ m).length c').ownBlock = (Value.slice A l.length c).ownBlock ∨ (Value.slice A' (l ++ m).length c').ownBlock = some W.heap.size) := by
  obtain ⟨ti, hi, hsz, hbb⟩ := ti_of (t := t) hs
  have hz' : ∃ zv, ti.zero = some zv ∧ zv.cells.size = e.sz := by
    cases hzz : ti.zero with
    | none => simp [hi, hzz] at hz
    | some zv => exact ⟨zv, rfl, by simpa [hi, hzz] using hz⟩
  obtain ⟨zv, hz', hzc⟩ := hz'
  have hb' := Nat.le_of_ble_eq_true hb
  have hle : l.length + m.length ≤ 140737488355328 := Nat.le_trans (Nat.le_mul_of_pos_right _ hb') hby
  have hql : (l ++ m).length = l.length + m.length := List.length_append
  rcases hown.2 with ⟨e1, hn⟩ | ⟨g, q, c3, cur, e1, hbg, hh, hnc, hm, hcs, htk⟩
  · injection e1 with e1 e2 e3
    subst e1
    subst e3
    have hl : l = [] := List.eq_nil_of_length_eq_zero hn
    subst hl
    have hrow : W.ownsRow B el e.sz (.slice none ([] : List α).length 0) ([] : List α).length (e.flat []) := World.ownsRow_nil _ _ _ _
    obtain ⟨A', c', w', r1, r2, r3, r4⟩ := app_run (P := P) (ty := ty) hrow hrd hB hby ht hs hz hb
    exact ⟨A', c', w', r1, ownsX_of r2, r3, r4⟩
  injection e1 with e1 _ e3
  subst e1
  subst e3
  obtain ⟨A3, c3, e1, _, _, _, h4⟩ := hrd
  injection e1 with e1 _ e3
  subst e1
  subst e3
  by_cases hm0 : m.length = 0
  · have hm1 : m = [] := List.eq_nil_of_length_eq_zero hm0
    subst hm1
    refine ⟨some ⟨g, q, none⟩, c, ?_⟩
    have hrun : ∃ w', (Builtin.append_ #[t, t] ty #[.slice (some ⟨g, q, none⟩) l.length c, .slice A2 ([] : List α).length c2]).run P W = .ok (.slice (some ⟨g, q, none⟩) (l ++ []).length c) w' ∧ w' = W.setRow g cur ∨ (Builtin.append_ #[t, t] ty #[.slice (some ⟨g, q, none⟩) l.length c, .slice A2 ([] : List α).length c2]).run P W = .ok (.slice (some ⟨g, q, none⟩) (l ++ []).length c) W := by
      refine ⟨W, ?_⟩
      cases A2 with
      | none =>
        right
        simp [Builtin.append_, run_underlying ht, sizeOf, typeInfo, hi, Builtin.lenOf, Builtin.firstCells, hnc, storeCells]
      | some ad =>
        right
        have hf := run_firstCells_some (P := P) W ti.size 0 ad 0 c2 [] (by simp) (by simp)
        simp [Builtin.append_, run_underlying ht, sizeOf, typeInfo, hi, Builtin.lenOf, hnc, hf, storeCells]
    obtain ⟨w', ⟨h1, rfl⟩ | h1⟩ := hrun
    · refine ⟨_, h1, ?_, ⟨rfl, rfl, rfl, by simp, fun k _ hk => setRow_other W g k _ (fun e => hk (by simp [Value.ownBlock, e]))⟩, .inl own_any⟩
      rw [List.append_nil]
      refine ⟨hown.1, .inr ⟨g, q, c, cur, rfl, hbg, ?_, hnc, hm, hcs, htk⟩⟩
      exact setRow_heap W g cur _ el (0, 0) hh
    · refine ⟨_, h1, by rw [List.append_nil]; exact hown, ⟨rfl, rfl, rfl, Nat.le_refl _, fun _ _ _ => rfl⟩, .inl own_any⟩
  · obtain ⟨b, off, rfl, hbk, hc⟩ := h4 (by omega)
    have hnews : ∀ j u, (e.flat m)[j]? = some u → W.cell? ((⟨b, off, none⟩ : Addr).add j) = some u := fun j u hj => by
      have hadd : (⟨b, off, none⟩ : Addr).add j = ⟨b, off + j, none⟩ := by unfold Addr.add; split <;> simp_all
      rw [hadd]
      exact hc j u hj
    by_cases hroom : l.length + m.length ≤ c
    · have hmul : (l.length + m.length) * e.sz ≤ c * e.sz := Nat.mul_le_mul_right _ hroom
      rw [Nat.add_mul] at hmul
      have hfl : (e.flat m).length = m.length * e.sz := e.flat_length m
      have hr := run_append_roomX (P := P) (W := W) (ty := ty) ht hi g q l.length c cur hh ⟨b, off, none⟩ m.length c2 (e.flat m) (by rw [hsz]; exact hfl) hnews (e.flat_one m) hroom (by rw [hsz]; omega)
      rw [hsz] at hr
      refine ⟨some ⟨g, q, none⟩, c, _, by rw [hql]; exact hr, ⟨by rw [e.flat_length], .inr ⟨g, q, c, _, by rw [hql], hbg, setRow_heap W g cur _ el _ hh, by rw [hql]; exact hroom, hm, ?_, ?_⟩⟩, ⟨rfl, rfl, rfl, by simp, fun k _ hk => setRow_other W g k _ (fun e => hk (by simp [Value.ownBlock, e]))⟩, .inl own_any⟩
      · simp only [List.size_toArray, List.length_append, List.length_take, List.length_drop, Array.length_toList]
        omega
      · have hcz : cur.toList.length = cur.size := Array.length_toList
        rw [List.toList_toArray, hql, e.flat_app, Nat.add_mul]
        have hd : (cur.toList.take (q + l.length * e.sz) ++ e.flat m ++ cur.toList.drop (q + l.length * e.sz + (e.flat m).length)).drop q = (cur.toList.drop q).take (l.length * e.sz) ++ e.flat m ++ cur.toList.drop (q + l.length * e.sz + (e.flat m).length) := by
          rw [List.append_assoc, List.drop_append_of_le_length (by rw [List.length_take]; omega), List.drop_take, Nat.add_sub_cancel_left, List.append_assoc]
        rw [hd, htk, List.take_append_of_le_length (by rw [List.length_append, e.flat_length, e.flat_length]; exact Nat.le_refl _), List.take_of_length_le (by rw [List.length_append, e.flat_length, e.flat_length]; exact Nat.le_refl _)]
    · have holds : ∀ j v, (e.flat l)[j]? = some v → W.cell? ((⟨g, q, none⟩ : Addr).add j) = some v := by
        intro j u hj
        have hadd : (⟨g, q, none⟩ : Addr).add j = ⟨g, q + j, none⟩ := by unfold Addr.add; split <;> simp_all
        rw [hadd, cell_of_row W g (q + j) cur el (0, 0) hh, ← Array.getElem?_toList]
        rw [← htk, List.getElem?_take] at hj
        split at hj
        · rwa [List.getElem?_drop] at hj
        · cases hj
      have hsm : l.length + m.length ≤ 9223372036854775807 := by omega
      have hr := run_append_grow (P := P) W t ty el ti zv ht hi hz' ⟨g, q, none⟩ l.length c (e.flat l) (by rw [hsz]; exact e.flat_length l) holds ⟨b, off, none⟩ m.length c2 (e.flat m) (by rw [hsz]; exact e.flat_length m) hnews (by omega) (by omega) (growslice_fits (by omega) (by rw [hbb]; exact hby))
      have hge := grownCap_ge W (l.length + m.length) c el
      have hcm : grownCap W (l.length + m.length) c el ≤ maxLen := grownCap_le_maxLen W (l.length + m.length) c el (by simp only [maxLen]; omega)
      have hrow : (W.drew.alloc (.cells ((e.flat l).toArray ++ (e.flat m).toArray ++ Builtin.zeroCells zv.cells (grownCap W (l.length + m.length) c el - (l.length + m.length))) el)).ownsRow B el e.sz (.slice (some ⟨W.heap.size, 0, none⟩) (l ++ m).length (grownCap W (l.length + m.length) c el)) (l ++ m).length (e.flat (l ++ m)) := by
        rw [hql]
        refine ⟨by rw [e.flat_length, hql], .inr ⟨W.heap.size, _, _, rfl, hB, heap_alloc_new W.drew _, hge, hcm, ?_, ?_⟩⟩
        · simp only [Array.size_append, List.size_toArray, size_zeroCells, hzc, e.flat_length, ← Nat.add_mul]
          congr 1
          omega
        · simp only [Array.toList_append, List.append_assoc]
          rw [← List.append_assoc, ← e.flat_app, ← hql, ← e.flat_length]
          exact List.take_left
      refine ⟨some ⟨W.heap.size, 0, none⟩, _, _, by rw [hql]; exact hr, ownsX_of hrow, ⟨rfl, rfl, rfl, by simp, fun k hk _ => by first | exact heap_alloc_old W.drew _ hk | exact Go.heap_alloc_old W.drew _ k hk⟩, .inr rfl⟩
theorem e_appX {t el : TypeId} {cl : Call} {x y : Operand} {d : Option Tmp} {A A2 : Option Addr} {c c2 : Nat} {l m q : List α} (j : Nat) (hq : appG e l m = some q) (s : Src M w0 its e A2 c2 m)
    (h : ∀ A' c', K (sh its j (rowX e w0.heap.size el (.slice A' q.length c') q)) (pt rs d (.slice A' q.length c')))
    (hj : nh its j = some (rowX e w0.heap.size el (.slice A l.length c) l) := by rfl)
    (hop : o.op = .call cl := by rfl) (hcl : cl.callee = .builtin .append := by rfl) (ha : cl.args = #[x, y] := by rfl) (hat : cl.argTypes = #[t, t] := by rfl) (hd : o.dst = d := by rfl)
    (hx : ev rs x = .slice A l.length c := by kernel_rfl) (hy : ev rs y = .slice A2 m.length c2 := by kernel_rfl) (ht : P.underlying t = some (.slice el) := by kernel_rfl)
    (hs : (P.info? el).map (fun i => (i.size, i.bytes)) = some (e.sz, e.by_) := by kernel_rfl) (hz : ((P.info? el).bind (·.zero)).map (·.cells.size) = some e.sz := by kernel_rfl) (hb : Nat.ble 1 e.by_ = true := by kernel_rfl) : Ex P M w0 its o rs K := by
  refine .value fun W S => ?_
  unfold appG at hq
  split at hq
  case isFalse => cases hq
  rename_i hby
  obtain rfl := Option.some.inj hq
  have hj' := hj
  rw [nh_eq] at hj
  obtain ⟨A', c', W', hrun, hown', hgr, hbl⟩ := app_runX (P := P) (ty := o.type) (S.get hj) (s.out W S) S.size hby ht hs hz hb
  have he : cl = { callee := .builtin .append, args := #[x, y], argTypes := #[t, t] } := by
    cases cl
    simp_all
  refine ⟨.slice A' (l ++ m).length c', W', sh its j (rowX e w0.heap.size el (.slice A' (l ++ m).length c') (l ++ m)), ?_, ?_, by rw [hd]; exact h _ _⟩
  · subst he
    simp only [execOp, hop, resolve, invoke, builtin, Sem.run_bind, Sem.run_pure, Result.andThen_ok, List.map_toArray, List.map_cons, List.map_nil, hx, hy, hrun]
  · rw [sh_eq]
    refine S.upd hj hgr.os hgr.tape hgr.output hgr.size (fun k hk hne => hgr.block k hk fun e1 => hne e1.symm) (rowX_good _ _ _ _) hown' fun k hk => ?_
    have hk' : (Value.slice A' (l ++ m).length c').ownBlock = some k := hk
    refine ⟨?_, (ownsX_lt hown' k hk').2⟩
    rcases hbl with h1 | h1
    · left
      show (Value.slice A l.length c).ownBlock = some k
      rw [← h1, hk']
    · right
      rw [hk'] at h1
      injection h1 with h1
      omega
/-! #### a result -/
abbrev RetX (e : Enc α) (t : TypeId) (w : World) (l : List α) (res : Value → Value) : Ending → World → Prop := fun en W' => ∃ A c, en = .returned (res (.slice A l.length c)) ∧ ownsX W' w.heap.size t e.sz (.slice A l.length c) l.length (e.flat l) ∧ Below w.heap.size w W'
theorem St.rowX {W : World} {B t : Nat} {A : Option Addr} {c : Nat} {l : List α} (S : St M w0 W its) (j : Nat) (h : nh its j = some (rowX e B t (.slice A l.length c) l) := by rfl) : ownsX W B t e.sz (.slice A l.length c) l.length (e.flat l) := by
  rw [nh_eq] at h
  exact S.get h
theorem e_crX {c : Call} {d : Option Tmp} {g : FuncId} {gfn : Func} {t : TypeId} {l : List α} (args : List Value) (res : Value → Value) (hgf : P.funcs[g]? = some gfn)
    (hc : ∀ W, St M w0 W its → Calls P g args.toArray W (RetX e t W l res))
    {K : List Hold → List Value → Prop} (h : ∀ A cp, K (its ++ [XC.rowX e w0.heap.size t (.slice A l.length cp) l]) (pt rs d (res (.slice A l.length cp))))
    (hop : o.op = .call c := by rfl) (hd : o.dst = d := by rfl) (hcal : c.callee = .value (.func g) := by rfl)
    (hb : gfn.body.isNone = false := by rfl) (hn : (gfn.name == "runtime.NumGoroutine") = false := by kernel_rfl) (ha : c.args.toList.map (ev rs) = args := by kernel_rfl) : Ex P M w0 its o rs K := by
  refine .enter (g := g) (args := args) fun W S => ⟨run_call (fst := #[]) (caps := #[]) hop hcal (x := .func g) rfl hgf hb hn (by simpa using ha) W, (hc W S).mono ?_⟩
  rintro en W' ⟨A, cp, rfl, hown, hbl⟩
  refine ⟨_, its ++ [XC.rowX e w0.heap.size t (.slice A l.length cp) l], rfl, ?_, by rw [hd]; exact h A cp⟩
  refine S.add hbl (rowX_good _ _ _ _) (ownsX_weaken hown S.size) ?_
  intro k hk
  exact ownsX_lt hown k hk
end Go.Proofs.XC
namespace Go.Proofs.XC
open Go Go.RowKit
variable {P : Program} {f : FuncId} {fn : Func} {R : Ending → World → Prop} {M : Nat → Prop} {w0 : World} {its its0 : List Hold} {k k0 k' : List Item} {rs : List Value} {ops : List Oper} {i fuel : Nat} {o : Oper} {listed : Array Bool} {α : Type} {e : Enc α}
variable {K : List Hold → List Value → Prop} {kk : Nat}
/-! ### Parts of rows that came in, and are written -/
def argX (e : Enc α) (B t : Nat) (A : Option Addr) (n c : Nat) (l : List α) : Hold := ⟨fun k => (Value.slice A n c).ownBlock = some k, fun W => l.length = n ∧ ownsX W B t e.sz (.slice A n c) n (e.flat l)⟩
theorem argX_good (e : Enc α) (B t : Nat) (A : Option Addr) (n c : Nat) (l : List α) : (argX e B t A n c l).good := by
  rintro W W' h ⟨h1, h2⟩
  exact ⟨h1, ownsX_good h h2⟩
abbrev RetWX (e : Enc α) (B t : Nat) (A : Option Addr) (n c : Nat) (w : World) (l : List α) (v : Value) : Ending → World → Prop := fun en W' => en = .returned v ∧ l.length = n ∧ ownsX W' B t e.sz (.slice A n c) n (e.flat l) ∧ w.grownBy W' (Value.slice A n c).ownBlock
theorem callsX {c : Code} {args : List Value} {B t : Nat} {A : Option Addr} {n cp : Nat} {l : List α} (hn : l.length = n) (h0 : ownsX w0 B t e.sz (.slice A n cp) n (e.flat l)) (hf : P.funcs[f]? = some fn) (hb : fn.body = some c)
    (h : GS P f R (fun k => (Value.slice A n cp).ownBlock = some k) w0 [argX e B t A n cp l] [.code c] (args ++ List.replicate (fn.ntmps - args.length) undef)) : Calls P f args.toArray w0 R := by
  have S : St (fun k => (Value.slice A n cp).ownBlock = some k) w0 w0 [argX e B t A n cp l] := by
    refine ⟨rfl, rfl, rfl, Nat.le_refl _, fun _ _ _ => rfl, fun it hi => ?_, by simp⟩
    rw [List.mem_singleton] at hi
    subst hi
    exact ⟨argX_good _ _ _ _ _ _ _, ⟨hn, h0⟩, fun k hk => ⟨.inr hk, (ownsX_lt h0 k hk).2⟩⟩
  exact G.calls hf hb (by simpa using h.out w0 S)
theorem St.retWX {W : World} {B t : Nat} {A : Option Addr} {n c : Nat} {l : List α} {v : Value} (S : St (fun k => (Value.slice A n c).ownBlock = some k) w0 W its) (h : nh its 0 = some (argX e B t A n c l) := by rfl) : RetWX e B t A n c w0 l v (.returned v) W := by
  rw [nh_eq] at h
  have hF := S.get h
  exact ⟨rfl, hF.1, hF.2, S.os, S.tape, S.output, S.size, fun k hk hne => S.keep k hk fun h => hne h.symm⟩
theorem s_argX {B t : Nat} {A : Option Addr} {n c : Nat} {l : List α} (j : Nat) (h : nh its j = some (argX e B t A n c l) := by rfl) : Src M w0 its e A c l := by
  rw [nh_eq] at h
  refine ⟨fun W S => ?_⟩
  have hF := S.get h
  obtain ⟨rfl, h2⟩ := hF
  exact .ofX h2
theorem y_idxX {t el : TypeId} {x ix : Operand} {B : Nat} {A : Option Addr} {n c : Nat} {l : List α} {z : Int} {y : α} (j : Nat) (hg : getI l z = some y)
    (hj : nh its j = some (argX e B el A n c l) := by rfl) (hop : o.op = .indexAddr t x ix := by rfl) (hv : ev rs x = .slice A n c := by kernel_rfl) (hi : ev rs ix = .int .i64 z := by kernel_rfl)
    (ht : P.underlying t = some (.slice el) := by kernel_rfl) (hs : (P.info? el).map (fun i => (i.size, i.bytes)) = some (e.sz, e.by_) := by kernel_rfl) : Yd P M w0 its o rs (elp A (z.toNat * e.sz)) := by
  refine ⟨fun W S => ?_⟩
  have hj' := hj
  rw [nh_eq] at hj'
  obtain ⟨h1, _⟩ := S.get hj'
  subst h1
  exact (y_idx (e := e) (el := el) hg (s_argX (M := M) (w0 := w0) j hj) hop hv hi ht hs).out W S
theorem y_elX {t el : TypeId} {x : Operand} {B : Nat} {A : Option Addr} {n c : Nat} {l : List α} {z : Int} {y : α} (j fo : Nat) (v : Value) (hg : getI l z = some y)
    (hj : nh its j = some (argX e B el A n c l) := by rfl) (hop : o.op = .load t x := by rfl) (hp : ev rs x = elp A (z.toNat * e.sz + fo) := by kernel_rfl) (hv : rdC P t fo (e.E y) = some v := by kernel_rfl) : Yd P M w0 its o rs v :=
  y_el fo v hg (s_argX j hj) hop hp hv
theorem e_stX {t el : TypeId} {x y : Operand} {B : Nat} {A : Option Addr} {n c : Nat} {l : List α} {z : Int} {a b : α} (j fo : Nat) (vs : List Value) (hg : getI l z = some a) (hb : e.E b = updL fo vs (e.E a))
    (h : K (sh its j (argX e B el A n c (l.set z.toNat b))) rs)
    (hj : nh its j = some (argX e B el A n c l) := by rfl)
    (hop : o.op = .store t x y := by rfl) (hd : o.dst = none := by rfl) (hp : ev rs x = elp A (z.toNat * e.sz + fo) := by kernel_rfl) (hv : (ev rs y).cells.toList = vs := by kernel_rfl)
    (hn : (P.info? t).map (·.size) = some vs.length := by kernel_rfl) (h1 : vs.all (·.oneCell') = true := by kernel_rfl) (hle : Nat.ble (fo + vs.length) e.sz = true := by kernel_rfl) : Ex P M w0 its o rs K := by
  refine .skip fun W S => ?_
  have hj' := hj
  rw [nh_eq] at hj
  obtain ⟨hln, hown⟩ := S.get hj
  subst hln
  obtain ⟨h0, hz1, hz2⟩ := getI_some hg
  have hle' := Nat.le_of_ble_eq_true hle
  have hlt : z.toNat < l.length := by omega
  have hfit : z.toNat * e.sz + fo + vs.length ≤ l.length * e.sz := by
    have h3 : (z.toNat + 1) * e.sz ≤ l.length * e.sz := Nat.mul_le_mul_right _ hlt
    rw [Nat.succ_mul] at h3
    omega
  rcases hown.2 with ⟨_, h2⟩ | ⟨g, qo, cap, cur, h2, hbg, hh, hnc, hcm, hcs, htk⟩
  · omega
  injection h2 with h2 _ h3
  subst h2
  subst h3
  subst hv
  generalize hvv : (ev rs y).cells.toList = vs at *
  have hcz : cur.toList.length = cur.size := Array.length_toList
  have hcl : qo + l.length * e.sz ≤ cur.toList.length := by
    have := Nat.mul_le_mul_right e.sz hnc
    omega
  have hrun : (storeVar t ⟨g, qo + (z.toNat * e.sz + fo), none⟩ (ev rs y)).run P W = .ok () (W.setRow g (updL (qo + (z.toNat * e.sz + fo)) vs cur.toList).toArray) := by
    have := run_storeVar_box (P := P) (W := W) (g := g) (off := qo + (z.toNat * e.sz + fo)) (t := t) (T := el) (cs := cur.toList) (v := ev rs y) (by simpa using hh) (by rw [hvv]; exact hn) (by rw [hvv]; exact h1) (by rw [hvv]; omega)
    rw [hvv] at this
    rw [this]
    unfold updL
    simp
  have hset : (l.set z.toNat b).length = l.length := List.length_set
  have hdrop : (updL (qo + (z.toNat * e.sz + fo)) vs cur.toList).drop qo = updL (z.toNat * e.sz + fo) vs (cur.toList.drop qo) := by
    have ht := updL_there (z.toNat * e.sz + fo) vs (cur.toList.take qo) (cur.toList.drop qo)
    have hl : (cur.toList.take qo).length = qo := by rw [List.length_take]; omega
    rw [List.take_append_drop, hl] at ht
    rw [ht, List.drop_append_of_le_length (by omega), List.drop_of_length_le (by omega), List.nil_append]
  refine ⟨W.setRow g (updL (qo + (z.toNat * e.sz + fo)) vs cur.toList).toArray, _, ?_, ?_, by rw [hd]; exact h⟩
  · simp only [execOp, hop, hp, Instr.storeAt, elp, bl, of]
    simp [Instr.sureAddr, hrun]
  · rw [sh_eq]
    refine S.upd hj rfl rfl rfl (by simp) (fun k hk hne => setRow_other W g k _ (fun e1 => hne ?_)) (argX_good _ _ _ _ _ _ _) ⟨hset, ?_⟩ ?_
    · subst e1; rfl
    · refine ⟨by rw [e.flat_length, hset], .inr ⟨g, qo, c, _, rfl, hbg, setRow_heap W g cur _ el (0, 0) hh, hnc, hcm, ?_, ?_⟩⟩
      · unfold updL
        rw [List.size_toArray, List.length_append, List.length_append, List.length_take, List.length_drop, hcz]
        rw [Nat.min_eq_left (by omega)]
        omega
      · rw [List.toList_toArray, hdrop, take_updL _ _ _ _ (by omega) (by rw [List.length_drop]; omega), htk, e.flat_upd fo vs a b hle' hb l z.toNat hz2]
    · intro k hk
      have hk' : (Value.slice (some ⟨g, qo, none⟩) l.length c).ownBlock = some k := hk
      simp only [Value.ownBlock, Option.some.injEq] at hk'
      subst hk'
      exact ⟨.inl rfl, by simpa using (S.own hj g rfl).2⟩
theorem e_stX2 {t el : TypeId} {x y : Operand} {B : Nat} {A : Option Addr} {n c : Nat} {l : List α} {z : Int} {a0 a b : α} (j fo : Nat) (vs : List Value) (hg : getI l z = some a0) (hb : e.E b = updL fo vs (e.E a))
    (h : K (sh its j (argX e B el A n c (l.set z.toNat b))) rs)
    (hj : nh its j = some (argX e B el A n c (l.set z.toNat a)) := by rfl)
    (hop : o.op = .store t x y := by rfl) (hd : o.dst = none := by rfl) (hp : ev rs x = elp A (z.toNat * e.sz + fo) := by kernel_rfl) (hv : (ev rs y).cells.toList = vs := by kernel_rfl)
    (hn : (P.info? t).map (·.size) = some vs.length := by kernel_rfl) (h1 : vs.all (·.oneCell') = true := by kernel_rfl) (hle : Nat.ble (fo + vs.length) e.sz = true := by kernel_rfl) : Ex P M w0 its o rs K := by
  refine e_stX (l := l.set z.toNat a) (a := a) (b := b) j fo vs (getI_set hg) hb ?_ hj hop hd hp hv hn h1 hle
  rw [List.set_set]
  exact h
theorem e_cwX {c : Call} {d : Option Tmp} {g : FuncId} {gfn : Func} {t B : Nat} {A : Option Addr} {cp : Nat} {l l' : List α} {v : Value} (j : Nat) (args : List Value) (hgf : P.funcs[g]? = some gfn)
    (hc : ∀ W, St M w0 W its → Calls P g args.toArray W (RetWX e B t A l.length cp W l' v))
    (h : l'.length = l.length → K (sh its j (rowX e B t (.slice A l'.length cp) l')) (pt rs d v))
    (hj : nh its j = some (rowX e B t (.slice A l.length cp) l) := by rfl)
    (hop : o.op = .call c := by rfl) (hd : o.dst = d := by rfl) (hcal : c.callee = .value (.func g) := by rfl)
    (hb : gfn.body.isNone = false := by rfl) (hn : (gfn.name == "runtime.NumGoroutine") = false := by kernel_rfl) (ha : c.args.toList.map (ev rs) = args := by kernel_rfl) : Ex P M w0 its o rs K := by
  refine .enter (g := g) (args := args) fun W S => ⟨run_call (fst := #[]) (caps := #[]) hop hcal (x := .func g) rfl hgf hb hn (by simpa using ha) W, (hc W S).mono ?_⟩
  rintro en W' ⟨rfl, hl, hown, hgr⟩
  rw [nh_eq] at hj
  refine ⟨v, sh its j (rowX e B t (.slice A l'.length cp) l'), rfl, ?_, by rw [hd]; exact h hl⟩
  rw [sh_eq]
  refine S.upd hj hgr.os hgr.tape hgr.output hgr.size (fun k hk hne => hgr.block k hk fun e1 => hne e1.symm) (rowX_good _ _ _ _) ?_ ?_
  · show ownsX W' _ _ _ _ _ _
    rw [hl]
    exact hown
  · intro k hk
    have hk' : (Value.slice A l'.length cp).ownBlock = some k := hk
    rw [hl] at hk'
    exact ⟨.inl hk', (ownsX_lt hown k hk').2⟩
theorem e_cwWX {c : Call} {d : Option Tmp} {g : FuncId} {gfn : Func} {t B : Nat} {A : Option Addr} {n cp : Nat} {l l' : List α} {v : Value} (j : Nat) (args : List Value) (hgf : P.funcs[g]? = some gfn)
    (hc : ∀ W, St M w0 W its → Calls P g args.toArray W (RetWX e B t A n cp W l' v))
    (h : K (sh its j (argX e B t A n cp l')) (pt rs d v))
    (hj : nh its j = some (argX e B t A n cp l) := by rfl)
    (hop : o.op = .call c := by rfl) (hd : o.dst = d := by rfl) (hcal : c.callee = .value (.func g) := by rfl)
    (hb : gfn.body.isNone = false := by rfl) (hn : (gfn.name == "runtime.NumGoroutine") = false := by kernel_rfl) (ha : c.args.toList.map (ev rs) = args := by kernel_rfl) : Ex P M w0 its o rs K := by
  refine .enter (g := g) (args := args) fun W S => ⟨run_call (fst := #[]) (caps := #[]) hop hcal (x := .func g) rfl hgf hb hn (by simpa using ha) W, (hc W S).mono ?_⟩
  rintro en W' ⟨rfl, hl, hown, hgr⟩
  rw [nh_eq] at hj
  refine ⟨v, sh its j (argX e B t A n cp l'), rfl, ?_, by rw [hd]; exact h⟩
  rw [sh_eq]
  exact S.upd hj hgr.os hgr.tape hgr.output hgr.size (fun k hk hne => hgr.block k hk fun e1 => hne e1.symm) (argX_good _ _ _ _ _ _ _) ⟨hl, hown⟩ fun k hk => ⟨.inl hk, (ownsX_lt hown k hk).2⟩
theorem St.rowWX {W : World} {B t : Nat} {A : Option Addr} {n c : Nat} {l : List α} (S : St M w0 W its) (j : Nat) (h : nh its j = some (argX e B t A n c l) := by rfl) : l.length = n ∧ ownsX W B t e.sz (.slice A n c) n (e.flat l) := by
  rw [nh_eq] at h
  exact S.get h
/-! ### A slice is clipped -/
theorem y_clip {t el : TypeId} {x hi mx : Operand} {A : Option Addr} {c : Nat} {l : List α} (s : Src M w0 its e A c l)
    (hop : o.op = .slice t x none (some hi) (some mx) := by rfl) (hv : ev rs x = .slice A l.length c := by kernel_rfl) (hhi : ev rs hi = .int .i64 (l.length : Int) := by kernel_rfl) (hmx : ev rs mx = .int .i64 (l.length : Int) := by kernel_rfl)
    (ht : P.underlying t = some (.slice el) := by kernel_rfl) (hs : (P.info? el).map (fun i => (i.size, i.bytes)) = some (e.sz, e.by_) := by kernel_rfl) : Yd P M w0 its o rs (.slice A l.length l.length) := by
  refine ⟨fun W S => .inl ?_⟩
  obtain ⟨ti, hi2, hsz, _⟩ := ti_of (t := t) hs
  obtain ⟨A2, c2, e1, _, _, hc, _⟩ := s.out W S
  injection e1 with e1 _ e3
  subst e1
  subst e3
  have hb : ∀ (m : Nat) code, l.length ≤ m → (Instr.sliceBound (.int .i64 (l.length : Int)) m code).run P W = .ok l.length W := by
    intro m code hm
    have g2 : (l.length : Int) ≤ (m : Int) := by omega
    simp [Instr.sliceBound, asIntOf, g2]
  have := hb c .slice3Acap hc
  have := hb l.length .slice3B (Nat.le_refl _)
  simp only [execOp, hop, hv, hhi, hmx, Instr.sliceAt, Option.map_none, Option.map_some]
  unfold Instr.slice Instr.sliceBounds
  simp only [Sem.run_bind, Sem.run_pure, run_underlying ht, Result.andThen_ok, if_true, hb c .slice3Acap hc, hb l.length .slice3B (Nat.le_refl _), run_size hi2]
  have hA : (if l.length = 0 then A else A.map (·.add (0 * ti.size))) = A := by
    split
    · rfl
    · cases A with
      | none => rfl
      | some a => simp [Addr.add]
  rw [Nat.sub_zero, hA]
/-! ### Cells are copied into a row -/
def cpL {α : Type} (l : List α) (a : Nat) (m : List α) : List α := l.take a ++ (m.take (l.length - a) ++ l.drop (a + min m.length (l.length - a)))
theorem cpL_len {α : Type} (l : List α) (a : Nat) (m : List α) (h : a ≤ l.length) : (cpL l a m).length = l.length := by
  unfold cpL
  rw [List.length_append, List.length_append, List.length_take, List.length_take, List.length_drop]
  omega
theorem cp_run {W : World} {B t ty el a : Nat} {A A2 : Option Addr} {c c2 : Nat} {l m : List α} (hown : W.ownsRow B el e.sz (.slice A l.length c) l.length (e.flat l)) (hrd : RdT e W (.slice A2 m.length c2) m) (ha : a ≤ l.length) (he : e.sz = 1)
    (hu : P.underlying t = some (.slice el)) (hs : (P.info? el).map (·.size) = some 1) :
    ∃ w', (Builtin.copy_ #[t, t] ty #[.slice (cutA e A c a) (l.length - a) (c - a), .slice A2 m.length c2]).run P W = .ok (goInt (min m.length (l.length - a) : Nat)) w' ∧ w'.ownsRow B el e.sz (.slice A l.length c) l.length (e.flat (cpL l a m)) ∧ W.grownBy w' (Value.slice A l.length c).ownBlock := by
  by_cases h0 : min m.length (l.length - a) = 0
  · have hr := run_copy_none (P := P) W t t ty el (cutA e A c a) A2 (l.length - a) (c - a) m.length c2 hu hs h0
    refine ⟨W, by rw [h0]; exact hr, ?_, ⟨rfl, rfl, rfl, Nat.le_refl _, fun _ _ _ => rfl⟩⟩
    have : cpL l a m = l := by
      unfold cpL
      rw [h0, Nat.add_zero]
      rcases Nat.eq_zero_or_pos m.length with hm | hm
      · rw [List.eq_nil_of_length_eq_zero hm, List.take_nil, List.nil_append, List.take_append_drop]
      · have : l.length - a = 0 := by omega
        rw [this, List.take_zero, List.nil_append, List.take_append_drop]
    rw [this]
    exact hown
  · rcases hown.2 with ⟨_, h2⟩ | ⟨g, cap, cur, h2, hbg, hh, hnc, hcm, hcs, htk⟩
    · omega
    injection h2 with h2 _ h3
    subst h2
    subst h3
    obtain ⟨A3, c3, e1, _, _, _, h4⟩ := hrd
    injection e1 with e1 _ e3
    subst e1
    subst e3
    obtain ⟨b, off, rfl, hbk, hc⟩ := h4 (by omega)
    have hcut : cutA e (some ⟨g, 0, none⟩) c a = some ⟨g, a, none⟩ := by
      unfold cutA
      rw [if_neg (by omega)]
      have hadd : (⟨g, 0, none⟩ : Addr).add (a * e.sz) = ⟨g, 0 + a * e.sz, none⟩ := by unfold Addr.add; split <;> simp_all
      rw [Option.map_some, hadd, Nat.zero_add, he, Nat.mul_one]
    rw [hcut]
    rw [he, Nat.mul_one] at hcs htk
    have hfl : (e.flat (m.take (l.length - a))).length = min m.length (l.length - a) := by rw [e.flat_length, he, Nat.mul_one, List.length_take, Nat.min_comm]
    have hcz : cur.toList.length = cur.size := Array.length_toList
    have hr := run_copy_row (P := P) W t t ty el g a (l.length - a) (c - a) ⟨b, off, none⟩ m.length c2 cur el (e.flat (m.take (l.length - a))) hu hs hh (by rw [hfl]) (fun j v hj => by
      have hadd : (⟨b, off, none⟩ : Addr).add j = ⟨b, off + j, none⟩ := by unfold Addr.add; split <;> simp_all
      rw [hadd]
      refine hc j v ?_
      rw [← e.flat_take, List.getElem?_take] at hj
      split at hj
      · exact hj
      · cases hj) (by rw [hfl]; omega) (e.flat_one _)
    rw [hfl] at hr
    refine ⟨_, hr, ⟨by rw [e.flat_length, cpL_len l a m ha], .inr ⟨g, c, _, rfl, hbg, setRow_heap W g cur _ el (0, 0) hh, hnc, hcm, ?_, ?_⟩⟩, ⟨rfl, rfl, rfl, by simp, fun k _ hk => setRow_other W g k _ (fun e => hk (by simp [Value.ownBlock, e]))⟩⟩
    · rw [List.size_toArray, List.length_append, List.length_append, List.length_take, List.length_drop, hfl, hcz, he]
      omega
    · rw [List.toList_toArray, he, Nat.mul_one]
      have h6 : e.flat l = (e.flat l).take a ++ (e.flat l).drop a := (List.take_append_drop _ _).symm
      have e1 : e.flat (cpL l a m) = (e.flat l).take a ++ (e.flat (m.take (l.length - a)) ++ (e.flat l).drop (a + min m.length (l.length - a))) := by
        unfold cpL
        have q1 := e.flat_take a l
        have q2 := e.flat_drop (a + min m.length (l.length - a)) l
        rw [he, Nat.mul_one] at q1 q2
        rw [e.flat_app, e.flat_app, q1, q2]
      have hfll : (e.flat l).length = l.length := by rw [e.flat_length, he, Nat.mul_one]
      rw [e1, List.append_assoc, List.take_append, List.take_append, List.length_take, hfl, hcz, Nat.min_eq_left (show a ≤ cur.size by omega), List.take_take, Nat.min_eq_right (show a ≤ l.length by omega), ← htk, List.take_take, Nat.min_eq_left (show a ≤ l.length by omega), List.take_of_length_le (l := e.flat (m.take (l.length - a))) (by rw [hfl]; omega), List.drop_take]
      congr 3
      omega
theorem e_cpA {t el : TypeId} {cl : Call} {x y : Operand} {d : Option Tmp} {B : Nat} {A A2 : Option Addr} {c c2 : Nat} {l m r : List α} {z : Int} (j : Nat) (hr : cutS l z (l.length : Int) = some r) (s : Src M w0 its e A2 c2 m)
    (h : (cpL l z.toNat m).length = l.length → K (sh its j (rowT e B el (.slice A (cpL l z.toNat m).length c) (cpL l z.toNat m))) (pt rs d (.int .i64 ((min m.length (l.length - z.toNat) : Nat) : Int))))
    (hj : nh its j = some (rowT e B el (.slice A l.length c) l) := by rfl)
    (hop : o.op = .call cl := by rfl) (hcl : cl.callee = .builtin .copy := by rfl) (ha : cl.args = #[x, y] := by rfl) (hat : cl.argTypes = #[t, t] := by rfl) (hd : o.dst = d := by rfl)
    (hx : ev rs x = .slice (cutA e A c z.toNat) r.length (c - z.toNat) := by kernel_rfl) (hy : ev rs y = .slice A2 m.length c2 := by kernel_rfl) (ht : P.underlying t = some (.slice el) := by kernel_rfl)
    (hs : (P.info? el).map (·.size) = some 1 := by kernel_rfl) (he : e.sz = 1 := by rfl) : Ex P M w0 its o rs K := by
  refine .value fun W S => ?_
  rw [nh_eq] at hj
  obtain ⟨h0, h1, _, rfl⟩ := cutS_some hr
  have hz : z.toNat ≤ l.length := by omega
  have hrl : ((l.drop z.toNat).take ((l.length : Int).toNat - z.toNat)).length = l.length - z.toNat := by simp
  obtain ⟨W', hrun, hown', hgr⟩ := cp_run (P := P) (ty := o.type) (t := t) (a := z.toNat) (S.get hj) (s.out W S) hz he ht hs
  have hcl2 : cl = { callee := .builtin .copy, args := #[x, y], argTypes := #[t, t] } := by
    cases cl
    simp_all
  have hlen := cpL_len l z.toNat m hz
  refine ⟨.int .i64 ((min m.length (l.length - z.toNat) : Nat) : Int), W', sh its j (rowT e B el (.slice A (cpL l z.toNat m).length c) (cpL l z.toNat m)), ?_, ?_, by rw [hd]; exact h hlen⟩
  · subst hcl2
    rw [hrl] at hx
    simp only [execOp, hop, resolve, invoke, builtin, Sem.run_bind, Sem.run_pure, Result.andThen_ok, List.map_toArray, List.map_cons, List.map_nil, hx, hy, hrun]
    rfl
  · rw [sh_eq]
    refine S.upd hj hgr.os hgr.tape hgr.output hgr.size (fun k hk hne => hgr.block k hk fun e1 => hne e1.symm) (rowT_good _ _ _ _) ?_ fun k hk => ?_
    · show W'.ownsRow _ _ _ _ _ _
      rw [hlen]
      exact hown'
    · have hk' : (Value.slice A l.length c).ownBlock = some k := by rw [← hlen]; exact hk
      exact ⟨.inl hk', (hown'.lt k hk').2⟩
theorem e_cp0 {t el : TypeId} {cl : Call} {x y : Operand} {d : Option Tmp} {B : Nat} {A A2 : Option Addr} {c c2 : Nat} {l m : List α} (j : Nat) (s : Src M w0 its e A2 c2 m)
    (h : (cpL l 0 m).length = l.length → K (sh its j (rowT e B el (.slice A (cpL l 0 m).length c) (cpL l 0 m))) (pt rs d (.int .i64 ((min m.length l.length : Nat) : Int))))
    (hj : nh its j = some (rowT e B el (.slice A l.length c) l) := by rfl)
    (hop : o.op = .call cl := by rfl) (hcl : cl.callee = .builtin .copy := by rfl) (ha : cl.args = #[x, y] := by rfl) (hat : cl.argTypes = #[t, t] := by rfl) (hd : o.dst = d := by rfl)
    (hx : ev rs x = .slice A l.length c := by kernel_rfl) (hy : ev rs y = .slice A2 m.length c2 := by kernel_rfl) (ht : P.underlying t = some (.slice el) := by kernel_rfl)
    (hs : (P.info? el).map (·.size) = some 1 := by kernel_rfl) (he : e.sz = 1 := by rfl) : Ex P M w0 its o rs K := by
  refine .value fun W S => ?_
  rw [nh_eq] at hj
  obtain ⟨W', hrun, hown', hgr⟩ := cp_run (P := P) (ty := o.type) (t := t) (a := 0) (S.get hj) (s.out W S) (Nat.zero_le _) he ht hs
  have hcl2 : cl = { callee := .builtin .copy, args := #[x, y], argTypes := #[t, t] } := by
    cases cl
    simp_all
  have hlen := cpL_len l 0 m (Nat.zero_le _)
  rw [cutA_zero, Nat.sub_zero, Nat.sub_zero] at hrun
  refine ⟨.int .i64 ((min m.length l.length : Nat) : Int), W', sh its j (rowT e B el (.slice A (cpL l 0 m).length c) (cpL l 0 m)), ?_, ?_, by rw [hd]; exact h hlen⟩
  · subst hcl2
    simp only [execOp, hop, resolve, invoke, builtin, Sem.run_bind, Sem.run_pure, Result.andThen_ok, List.map_toArray, List.map_cons, List.map_nil, hx, hy, hrun]
    rfl
  · rw [sh_eq]
    refine S.upd hj hgr.os hgr.tape hgr.output hgr.size (fun k hk hne => hgr.block k hk fun e1 => hne e1.symm) (rowT_good _ _ _ _) ?_ fun k hk => ?_
    · show W'.ownsRow _ _ _ _ _ _
      rw [hlen]
      exact hown'
    · have hk' : (Value.slice A l.length c).ownBlock = some k := by rw [← hlen]; exact hk
      exact ⟨.inl hk', (hown'.lt k hk').2⟩
end Go.Proofs.XC
namespace Go.Proofs.XC
open Go Go.RowKit
variable {P : Program} {f : FuncId} {fn : Func} {R : Ending → World → Prop} {M : Nat → Prop} {w0 : World} {its its0 : List Hold} {k k0 k' : List Item} {rs : List Value} {ops : List Oper} {i kk fuel : Nat} {o : Oper} {listed : Array Bool} {α : Type} {e : Enc α}
/-! ### What a variable holds, told in other words -/
theorem o_bxeq (j : Nat) {g t : Nat} {cs cs' : List Value} (e : cs = cs') (h : OS P f R M w0 (sh its j (box g t cs')) k ops i rs) (hj : nh its j = some (box g t cs) := by rfl) : OS P f R M w0 its k ops i rs :=
  ⟨fun W S => h.out W (S.chg hj (by subst e; exact (S.all _ (List.mem_of_getElem? (by rw [nh_eq] at hj; exact hj))).1) (fun hF => by subst e; exact hF) fun k hk => by subst e; exact hk)⟩
theorem a_bxeq (j : Nat) {g t : Nat} {cs cs' : List Value} (e : cs = cs') (h : AS P f R M w0 its0 kk (sh its j (box g t cs')) k ops fuel listed rs) (hj : nh its j = some (box g t cs) := by rfl) : AS P f R M w0 its0 kk its k ops fuel listed rs :=
  ⟨fun W S => h.out W (S.chg hj (by subst e; exact (S.all _ (List.mem_of_getElem? (by rw [nh_eq] at hj; exact hj))).1) (fun hF => by subst e; exact hF) fun k hk => by subst e; exact hk)⟩
end Go.Proofs.XC
namespace Go.Proofs.XC
open Go Go.RowKit
variable {P : Program} {f : FuncId} {fn : Func} {R : Ending → World → Prop} {M : Nat → Prop} {w0 : World} {its its0 : List Hold} {k k0 k' : List Item} {rs : List Value} {ops : List Oper} {i kk fuel : Nat} {o : Oper} {listed : Array Bool} {α : Type} {e : Enc α}
variable {K : List Hold → List Value → Prop}
/-! ### A variable behind a pointer that came in, and that is written -/
abbrev RetQ (g T : Nat) (cs : List Value) (w : World) (v : Value) : Ending → World → Prop := fun en W' => en = .returned v ∧ W'.heap[g]? = some (.cells cs.toArray T (0, 0)) ∧ w.grownBy W' (some g)
abbrev RetQR (e : Enc α) (t : TypeId) (g T : Nat) (cs : List Value) (w : World) (l : List α) (res : Value → Value) : Ending → World → Prop := fun en W' => ∃ A c, en = .returned (res (.slice A l.length c)) ∧ W'.ownsRow w.heap.size t e.sz (.slice A l.length c) l.length (e.flat l) ∧ (∀ k, (Value.slice A l.length c).ownBlock = some k → k ≠ g) ∧ W'.heap[g]? = some (.cells cs.toArray T (0, 0)) ∧ w.grownBy W' (some g)
theorem callsQ {c : Code} {args : List Value} {g T : Nat} {cs : List Value} (h0 : w0.heap[g]? = some (.cells cs.toArray T (0, 0))) (hf : P.funcs[f]? = some fn) (hb : fn.body = some c)
    (h : GS P f R (fun k => k = g) w0 [box g T cs] [.code c] (args ++ List.replicate (fn.ntmps - args.length) undef)) : Calls P f args.toArray w0 R := by
  have S : St (fun k => k = g) w0 w0 [box g T cs] := by
    refine ⟨rfl, rfl, rfl, Nat.le_refl _, fun _ _ _ => rfl, fun it hi => ?_, by simp⟩
    rw [List.mem_singleton] at hi
    subst hi
    exact ⟨box_good _ _ _, h0, fun k hk => ⟨.inr hk, by rw [show k = g from hk]; exact (Array.getElem?_eq_some_iff.1 h0).1⟩⟩
  exact G.calls hf hb (by simpa using h.out w0 S)
theorem St.retQ {W : World} {g T : Nat} {cs : List Value} {v : Value} (S : St (fun k => k = g) w0 W its) (h : nh its 0 = some (box g T cs) := by rfl) : RetQ g T cs w0 v (.returned v) W :=
  ⟨rfl, S.bx 0 h, S.os, S.tape, S.output, S.size, fun k hk hne => S.keep k hk fun e => hne (by rw [e])⟩
theorem St.retQR {W : World} {t g T : Nat} {A : Option Addr} {c : Nat} {l : List α} {cs : List Value} {res : Value → Value} (S : St (fun k => k = g) w0 W its) (j : Nat) (hj0 : j ≠ 0) (hj : nh its j = some (rowT e w0.heap.size t (.slice A l.length c) l) := by rfl) (h : nh its 0 = some (box g T cs) := by rfl) : RetQR e t g T cs w0 l res (.returned (res (.slice A l.length c))) W := by
  refine ⟨A, c, rfl, S.row j hj, ?_, S.bx 0 h, S.os, S.tape, S.output, S.size, fun k hk hne => S.keep k hk fun e => hne (by rw [e])⟩
  rw [nh_eq] at hj h
  exact fun k hk hg => S.two hj0 hj h k hk hg
theorem retQR_nil {W : World} {t g T : Nat} {cs : List Value} {res : Value → Value} (S : St (fun k => k = g) w0 W its) (h : nh its 0 = some (box g T cs) := by rfl) : RetQR e t g T cs w0 [] res (.returned (res (.slice none 0 0))) W :=
  ⟨none, 0, rfl, World.ownsRow_nil _ _ _ _, (fun k hk => nomatch hk), S.bx 0 h, S.os, S.tape, S.output, S.size, fun k hk hne => S.keep k hk fun e => hne (by rw [e])⟩
/-- A slice that came in, apart from what is written. -/
theorem s_argN {A : Option Addr} {c : Nat} {l : List α} (h : RdT e w0 (.slice A l.length c) l) (hM : 0 < l.length → ∀ k, (Value.slice A l.length c).ownBlock = some k → ¬ M k) : Src M w0 its e A c l := by
  refine ⟨fun W S => ?_⟩
  obtain ⟨A2, c2, e1, h2, h3, h3', h4⟩ := h
  refine ⟨A2, c2, e1, h2, h3, h3', fun hn => ?_⟩
  obtain ⟨b, off, e2, hb, hc⟩ := h4 hn
  injection e1 with e1 _ e3
  subst e1
  subst e2
  have hk : W.heap[b]? = w0.heap[b]? := S.keep b hb (hM hn b rfl)
  refine ⟨b, off, rfl, Nat.lt_of_lt_of_le hb S.size, fun j u hj => ?_⟩
  rw [← hc j u hj]
  unfold World.cell?
  simp only [hk]
theorem ap_nil {P : Nat → Prop} : 0 < 0 → ∀ k, (Value.slice none 0 0).ownBlock = some k → ¬ P k := fun h => by omega
theorem ap_arg {W : World} {g T : Nat} {cs : List Value} {A : Option Addr} {c : Nat} {l : List α} (h : RdT e w0 (.slice A l.length c) l) (S : St no w0 W its) (j : Nat) (hj : nh its j = some (box g T cs) := by rfl) : 0 < l.length → ∀ k, (Value.slice A l.length c).ownBlock = some k → ¬ k = g := by
  intro hn k hk hg
  obtain ⟨A2, c2, e1, _, _, _, h4⟩ := h
  obtain ⟨b, off, e2, hb, _⟩ := h4 hn
  injection e1 with e1 _ _
  subst e1
  subst e2
  have hk' : b = k := Option.some.inj hk
  rw [nh_eq] at hj
  have := (S.own hj g rfl).1
  rcases this with h1 | h1
  · omega
  · exact h1
theorem ap_row {W : World} {B t g T : Nat} {cs : List Value} {A : Option Addr} {c : Nat} {l : List α} (S : St M w0 W its) (jr j : Nat) (hne : jr ≠ j) (hr : nh its jr = some (rowT e B t (.slice A l.length c) l) := by rfl) (hj : nh its j = some (box g T cs) := by rfl) : 0 < l.length → ∀ k, (Value.slice A l.length c).ownBlock = some k → ¬ k = g := by
  rw [nh_eq] at hr hj
  exact fun _ k hk hg => S.two hne hr hj k hk hg
/-- A call by which the variable behind the pointer is written. -/
theorem e_cq {c : Call} {d : Option Tmp} {f2 : FuncId} {gfn : Func} {g T : Nat} {cs cs' : List Value} {v : Value} (j : Nat) (args : List Value) (hgf : P.funcs[f2]? = some gfn)
    (hc : ∀ W, St M w0 W its → Calls P f2 args.toArray W (RetQ g T cs' W v))
    (h : K (sh its j (box g T cs')) (pt rs d v))
    (hj : nh its j = some (box g T cs) := by rfl)
    (hop : o.op = .call c := by rfl) (hd : o.dst = d := by rfl) (hcal : c.callee = .value (.func f2) := by rfl)
    (hb : gfn.body.isNone = false := by rfl) (hn : (gfn.name == "runtime.NumGoroutine") = false := by kernel_rfl) (ha : c.args.toList.map (ev rs) = args := by kernel_rfl) : Ex P M w0 its o rs K := by
  refine .enter (g := f2) (args := args) fun W S => ⟨run_call (fst := #[]) (caps := #[]) hop hcal (x := .func f2) rfl hgf hb hn (by simpa using ha) W, (hc W S).mono ?_⟩
  rintro en W' ⟨rfl, hbx, hgr⟩
  rw [nh_eq] at hj
  refine ⟨v, sh its j (box g T cs'), rfl, ?_, by rw [hd]; exact h⟩
  rw [sh_eq]
  exact S.upd hj hgr.os hgr.tape hgr.output hgr.size (fun k hk hne => hgr.block k hk fun e1 => hne (Option.some.inj e1)) (box_good _ _ _) hbx fun k hk => ⟨.inl hk, by rw [show k = g from hk]; exact (Array.getElem?_eq_some_iff.1 hbx).1⟩
theorem e_cqR {c : Call} {d : Option Tmp} {f2 : FuncId} {gfn : Func} {g T : Nat} {t : TypeId} {cs cs' : List Value} {l : List α} (j : Nat) (args : List Value) (res : Value → Value) (hgf : P.funcs[f2]? = some gfn)
    (hc : ∀ W, St M w0 W its → Calls P f2 args.toArray W (RetQR e t g T cs' W l res))
    (h : ∀ A cp, K (sh its j (box g T cs') ++ [rowT e w0.heap.size t (.slice A l.length cp) l]) (pt rs d (res (.slice A l.length cp))))
    (hj : nh its j = some (box g T cs) := by rfl)
    (hop : o.op = .call c := by rfl) (hd : o.dst = d := by rfl) (hcal : c.callee = .value (.func f2) := by rfl)
    (hb : gfn.body.isNone = false := by rfl) (hn : (gfn.name == "runtime.NumGoroutine") = false := by kernel_rfl) (ha : c.args.toList.map (ev rs) = args := by kernel_rfl) : Ex P M w0 its o rs K := by
  refine .enter (g := f2) (args := args) fun W S => ⟨run_call (fst := #[]) (caps := #[]) hop hcal (x := .func f2) rfl hgf hb hn (by simpa using ha) W, (hc W S).mono ?_⟩
  rintro en W' ⟨A, cp, rfl, hown, hne, hbx, hgr⟩
  rw [nh_eq] at hj
  refine ⟨_, sh its j (box g T cs') ++ [rowT e w0.heap.size t (.slice A l.length cp) l], rfl, ?_, by rw [hd]; exact h A cp⟩
  rw [sh_eq]
  have hlt : g < W'.heap.size := (Array.getElem?_eq_some_iff.1 hbx).1
  have S1 : St M w0 W' (its.set j (box g T cs')) := S.upd hj hgr.os hgr.tape hgr.output hgr.size (fun k hk hne => hgr.block k hk fun e1 => hne (Option.some.inj e1)) (box_good _ _ _) hbx fun k hk => ⟨.inl hk, by rw [show k = g from hk]; exact hlt⟩
  have hws : w0.heap.size ≤ W.heap.size := S.size
  refine ⟨S1.os, S1.tape, S1.output, S1.size, S1.keep, fun it hi => ?_, ?_⟩
  · rcases List.mem_append.1 hi with hi | hi
    · exact S1.all it hi
    · rw [List.mem_singleton] at hi
      subst hi
      refine ⟨rowT_good _ _ _ _, own_weaken' hown hws, fun k hk => ?_⟩
      have hk' : (Value.slice A l.length cp).ownBlock = some k := hk
      have := hown.lt k hk'
      exact ⟨.inl (by omega), this.2⟩
  · refine List.pairwise_append.2 ⟨S1.apart, by simp, fun x hx y hy k h1 h2 => ?_⟩
    rw [List.mem_singleton] at hy
    subst hy
    have hk' : (Value.slice A l.length cp).ownBlock = some k := h2
    have hW := (hown.lt k hk').1
    obtain ⟨q, hq⟩ := List.mem_iff_getElem?.1 hx
    by_cases hqj : j = q
    · subst hqj
      have hjl : j < its.length := (List.getElem?_eq_some_iff.1 hj).1
      rw [List.getElem?_set_self hjl] at hq
      obtain rfl := Option.some.inj hq
      exact hne k hk' h1
    · rw [List.getElem?_set_ne hqj] at hq
      have := (S.own hq k h1).2
      omega
end Go.Proofs.XC
namespace Go.Proofs.XC
open Go Go.RowKit
variable {P : Program} {f : FuncId} {fn : Func} {R : Ending → World → Prop} {M : Nat → Prop} {w0 : World} {its its0 : List Hold} {k k0 k' : List Item} {rs : List Value} {ops : List Oper} {i kk fuel : Nat} {o : Oper} {listed : Array Bool} {α : Type} {e : Enc α}
/-- Ways meet ahead of what is next, or return. -/
theorem joinTE {σ ρ X : Type} {e : Option (ρ ⊕ σ)} {A : ρ → Prop} {K' : σ → Prop} {x0 : Item} (h : H e (Kk A K')) (pr : X → σ) (It : X → List Hold) (Rs : X → (Nat → Value) → List Value)
    (first : H e (Kk A K') → (∀ y its' rs', K' (pr y) → its'.take (It y).length = It y → rs' = Rs y (gt rs') → GS P f R M w0 its' k' rs') → GS P f R M w0 its (x0 :: k') rs)
    (rest : ∀ x u, K' (pr x) → GS P f R M w0 (It x) k' (Rs x u)) : GS P f R M w0 its (x0 :: k') rs :=
  first h fun y its' rs' hy e1 e2 => keep _ e1 (by rw [e2]; exact rest y _ hy)
end Go.Proofs.XC
namespace Go.Proofs.XC
open Go Go.RowKit
variable {P : Program} {f : FuncId} {fn : Func} {R : Ending → World → Prop} {M : Nat → Prop} {w0 W : World} {its : List Hold} {k : List Item} {rs : List Value} {ops : List Oper} {i kk fuel : Nat} {o : Oper} {listed : Array Bool} {α β : Type} {e : Enc α} {e' : Enc β}
/-! ### Two new rows as results -/
abbrev RetR2 (e : Enc α) (t : TypeId) (e' : Enc β) (t' : TypeId) (w : World) (l : List α) (l' : List β) (res : Value → Value → Value) : Ending → World → Prop := fun en W' => ∃ A c A' c', en = .returned (res (.slice A l.length c) (.slice A' l'.length c')) ∧ W'.ownsRow w.heap.size t e.sz (.slice A l.length c) l.length (e.flat l) ∧ W'.ownsRow w.heap.size t' e'.sz (.slice A' l'.length c') l'.length (e'.flat l') ∧ (∀ k, (Value.slice A l.length c).ownBlock = some k → ¬ (Value.slice A' l'.length c').ownBlock = some k) ∧ Below w.heap.size w W'
theorem St.two2 {B t B' t' : Nat} {A A' : Option Addr} {c c' : Nat} {l : List α} {l' : List β} (S : St M w0 W its) (i j : Nat) (hne : i ≠ j) (hi : nh its i = some (rowT e B t (.slice A l.length c) l) := by rfl) (hj : nh its j = some (rowT e' B' t' (.slice A' l'.length c') l') := by rfl) : ∀ k, (Value.slice A l.length c).ownBlock = some k → ¬ (Value.slice A' l'.length c').ownBlock = some k := by
  rw [nh_eq] at hi hj
  exact fun k h1 h2 => S.two hne hi hj k h1 h2
theorem two_n1 {v : Value} : ∀ k, (Value.slice none 0 0).ownBlock = some k → ¬ v.ownBlock = some k := fun k hk => nomatch hk
theorem two_n2 {v : Value} : ∀ k, v.ownBlock = some k → ¬ (Value.slice none 0 0).ownBlock = some k := fun k _ hk => nomatch hk
/-- A call whose results bear two new rows. -/
theorem e_cr2 {c : Call} {d : Option Tmp} {g : FuncId} {gfn : Func} {t t' : TypeId} {l : List α} {l' : List β} (args : List Value) (res : Value → Value → Value) (hgf : P.funcs[g]? = some gfn)
    (hc : ∀ W, St M w0 W its → Calls P g args.toArray W (RetR2 e t e' t' W l l' res))
    {K : List Hold → List Value → Prop} (h : ∀ A cp A' cp', K (its ++ [rowT e w0.heap.size t (.slice A l.length cp) l, rowT e' w0.heap.size t' (.slice A' l'.length cp') l']) (pt rs d (res (.slice A l.length cp) (.slice A' l'.length cp'))))
    (hop : o.op = .call c := by rfl) (hd : o.dst = d := by rfl) (hcal : c.callee = .value (.func g) := by rfl)
    (hb : gfn.body.isNone = false := by rfl) (hn : (gfn.name == "runtime.NumGoroutine") = false := by kernel_rfl) (ha : c.args.toList.map (ev rs) = args := by kernel_rfl) : Ex P M w0 its o rs K := by
  refine .enter (g := g) (args := args) fun W S => ⟨run_call (fst := #[]) (caps := #[]) hop hcal (x := .func g) rfl hgf hb hn (by simpa using ha) W, (hc W S).mono ?_⟩
  rintro en W' ⟨A, cp, A', cp', rfl, hown, hown', hap, hbl⟩
  refine ⟨_, its ++ [rowT e w0.heap.size t (.slice A l.length cp) l, rowT e' w0.heap.size t' (.slice A' l'.length cp') l'], rfl, ?_, by rw [hd]; exact h A cp A' cp'⟩
  have S1 : St M w0 W' (its ++ [rowT e w0.heap.size t (.slice A l.length cp) l]) := by
    refine S.add hbl (rowT_good _ _ _ _) (own_weaken' hown S.size) ?_
    intro k hk
    have hk' : (Value.slice A l.length cp).ownBlock = some k := hk
    exact hown.lt k hk'
  have hlt : ∀ k, (Value.slice A' l'.length cp').ownBlock = some k → W.heap.size ≤ k ∧ k < W'.heap.size := fun k hk => hown'.lt k hk
  have e1 : its ++ [rowT e w0.heap.size t (.slice A l.length cp) l, rowT e' w0.heap.size t' (.slice A' l'.length cp') l'] = (its ++ [rowT e w0.heap.size t (.slice A l.length cp) l]) ++ [rowT e' w0.heap.size t' (.slice A' l'.length cp') l'] := by simp
  refine ⟨S1.os, S1.tape, S1.output, S1.size, S1.keep, fun it hi => ?_, ?_⟩
  · rw [e1] at hi
    rcases List.mem_append.1 hi with hi | hi
    · exact S1.all it hi
    · rw [List.mem_singleton] at hi
      subst hi
      exact ⟨rowT_good _ _ _ _, own_weaken' hown' S.size, fun k hk => ⟨.inl (Nat.le_trans S.size (hlt k hk).1), (hlt k hk).2⟩⟩
  · rw [e1]
    refine List.pairwise_append.2 ⟨S1.apart, by simp, fun x hx y hy k h1 h2 => ?_⟩
    rw [List.mem_singleton] at hy
    subst hy
    rcases List.mem_append.1 hx with hx | hx
    · have a1 := ((S.all x hx).2.2 k h1).2
      have a2 := (hlt k h2).1
      omega
    · rw [List.mem_singleton] at hx
      subst hx
      exact hap k h1 h2
/-- Three operations that may come in any order. -/
theorem a_three {its0 : List Hold} (i j l : Nat) {oi oj ol : Oper} (hi : nth ops i = some oi) (hj : nth ops j = some oj) (hl : nth ops l = some ol)
    (h1 : Ex P M w0 its oi rs (fun its' rs' => ((listed.setIfInBounds i true).getD kk false = true ∨ its'.take (its0.length) = its0) ∧ AS P f R M w0 its0 kk its' k ops fuel (listed.setIfInBounds i true) rs'))
    (h2 : Ex P M w0 its oj rs (fun its' rs' => ((listed.setIfInBounds j true).getD kk false = true ∨ its'.take (its0.length) = its0) ∧ AS P f R M w0 its0 kk its' k ops fuel (listed.setIfInBounds j true) rs'))
    (h3 : Ex P M w0 its ol rs (fun its' rs' => ((listed.setIfInBounds l true).getD kk false = true ∨ its'.take (its0.length) = its0) ∧ AS P f R M w0 its0 kk its' k ops fuel (listed.setIfInBounds l true) rs'))
    (g1 : gd ops rs oi = some true := by kernel_rfl) (g2 : gd ops rs oj = some true := by kernel_rfl) (g3 : gd ops rs ol = some true := by kernel_rfl) (hr : Region.ready .any ops.toArray listed = [i, j, l] := by kernel_rfl) : AS P f R M w0 its0 kk its k ops (fuel + 1) listed rs := by
  refine a_all [i, j, l] ?_ rfl hr
  intro x hx
  simp only [List.mem_cons, List.not_mem_nil, or_false] at hx
  rcases hx with rfl | rfl | rfl
  · exact ⟨oi, hi, g1, h1⟩
  · exact ⟨oj, hj, g2, h2⟩
  · exact ⟨ol, hl, g3, h3⟩
end Go.Proofs.XC
namespace Go.Proofs.XC
open Go Go.RowKit
variable {P : Program} {f : FuncId} {fn : Func} {R : Ending → World → Prop} {M : Nat → Prop} {w0 : World} {its its0 : List Hold} {k k0 k' : List Item} {rs : List Value} {ops : List Oper} {i kk fuel : Nat} {o : Oper} {listed : Array Bool} {α : Type} {e : Enc α}
variable {K : List Hold → List Value → Prop}
/-! ### Variables of a package, of which a contract asks something -/
theorem var_up {n : String} {cs : Array Value} {w W : World} (h : w.var? P n = some cs) (hb : Below w.heap.size w W) : W.var? P n = some cs := by
  unfold World.var? at h ⊢
  cases hg : P.globalNamed n with
  | none => simp [hg] at h
  | some g =>
    simp only [hg, Option.bind_some] at h ⊢
    have hlt : g < w.heap.size := by
      rcases Nat.lt_or_ge g w.heap.size with h' | h'
      · exact h'
      · simp [Array.getElem?_eq_none h'] at h
    rw [hb.block g hlt]
    exact h
/-- The errors and the table that a number's text asks for. -/
def EV (P : Program) (w : World) : Prop := (∃ t p, w.var? P "strconv.ErrSyntax" = some #[.iface t p]) ∧ (∃ t p, w.var? P "strconv.ErrRange" = some #[.iface t p]) ∧ Lib.TabIs P w "internal/strconv.uint64pow10" .u64 Lib.pow10Tab
theorem EV.below {w W : World} (h : EV P w) (hb : Below w.heap.size w W) : EV P W := by
  obtain ⟨⟨t, p, h1⟩, ⟨t', p', h2⟩, h3⟩ := h
  exact ⟨⟨t, p, var_up h1 hb⟩, ⟨t', p', var_up h2 hb⟩, var_up h3 hb⟩
theorem EV.up {W : World} (h : EV P w0) (S : St no w0 W its) : EV P W := h.below S.below
/-- A call of which only so much is known of what it hands back. -/
theorem e_callE {c : Call} {f2 : FuncId} {gfn : Func} (Pv : Value → Prop) (args : List Value) (hgf : P.funcs[f2]? = some gfn)
    (hc : ∀ W, St M w0 W its → Calls P f2 args.toArray W fun en W' => ∃ v, Pv v ∧ en = .returned v ∧ Below W.heap.size W W')
    (h : ∀ v, Pv v → K its (pt rs o.dst v))
    (hop : o.op = .call c := by rfl) (hcal : c.callee = .value (.func f2) := by rfl)
    (hb : gfn.body.isNone = false := by rfl) (hn : (gfn.name == "runtime.NumGoroutine") = false := by kernel_rfl) (ha : c.args.toList.map (ev rs) = args := by kernel_rfl) : Ex P M w0 its o rs K := by
  refine .enter (g := f2) (args := args) fun W S => ⟨run_call (fst := #[]) (caps := #[]) hop hcal (x := .func f2) rfl hgf hb hn (by simpa using ha) W, (hc W S).mono ?_⟩
  rintro en W' ⟨v, hv, rfl, hbl⟩
  exact ⟨v, its, rfl, S.frame hbl, h v hv⟩
def isIfc (P : Program) (t : TypeId) : Bool := match P.underlying t with
  | some (.interface _) => true
  | _ => false
theorem isIfc_of {t : TypeId} (h : isIfc P t = true) : ∃ ms, P.underlying t = some (.interface ms) := by
  unfold isIfc at h
  split at h
  · rename_i ms e
    exact ⟨ms, e⟩
  · cases h
/-- An interface value that is compared with nil. -/
theorem y_nei0 {t u : TypeId} {x : Operand} (hop : o.op = .binOp .neq t x (.const .nilIface) u := by rfl) (hx : ev rs x = .nilIface := by kernel_rfl) (ht : isIfc P t = true := by kernel_rfl) : Yd P M w0 its o rs (.bool false) := by
  refine ⟨fun W S => .inl ?_⟩
  obtain ⟨ms, ht⟩ := isIfc_of ht
  have h0 : ∀ d : Nat, (Op.equalIn (d + 1) t .nilIface .nilIface).run P W = .ok true W := by
    intro d
    simp [Op.equalIn, run_underlying ht]
  have h : (Op.equal t .nilIface .nilIface).run P W = .ok true W := h0 9999
  have hy : ev rs (.const .nilIface) = .nilIface := rfl
  simp [execOp, hop, hx, hy, eqGuard, binOp, h]
theorem y_nei1 {t u ti : TypeId} {x : Operand} {v : Value} (hop : o.op = .binOp .neq t x (.const .nilIface) u := by rfl) (hx : ev rs x = .iface ti v := by kernel_rfl) (ht : isIfc P t = true := by kernel_rfl) : Yd P M w0 its o rs (.bool true) := by
  refine ⟨fun W S => .inl ?_⟩
  obtain ⟨ms, ht⟩ := isIfc_of ht
  have h0 : ∀ d : Nat, (Op.equalIn (d + 1) t (.iface ti v) .nilIface).run P W = .ok false W := by
    intro d
    simp [Op.equalIn, run_underlying ht]
  have h : (Op.equal t (.iface ti v) .nilIface).run P W = .ok false W := h0 9999
  have hy : ev rs (.const .nilIface) = .nilIface := rfl
  simp [execOp, hop, hx, hy, eqGuard, binOp, h]
end Go.Proofs.XC
namespace Go.Proofs.XC
open Go Go.RowKit
/-! ### What a row that lists them says of the errors and of the table -/
def oneF (P : Program) (t ts : TypeId) : Bool := match P.underlying t with
  | some (.struct fs) => match fs.toList with
    | [f] => f.type == ts && f.offset == 0
    | _ => false
  | _ => false
theorem oneF_of {P : Program} {t ts : TypeId} (h : oneF P t ts = true) : ∃ f : Field, P.underlying t = some (.struct #[f]) ∧ f.type = ts ∧ f.offset = 0 := by
  unfold oneF at h
  split at h
  · rename_i fs e
    split at h
    · rename_i f e2
      rw [Bool.and_eq_true, beq_iff_eq, beq_iff_eq] at h
      refine ⟨f, ?_, h.1, h.2⟩
      rw [e, ← e2]
    · cases h
  · cases h
theorem sentinel_of {P : Program} {n nm : String} {text : List UInt8} {r : List (String × DataW Unit)} {W : World} (g : Nat) (ti tp te ts : TypeId)
    (h : laidMet P ((n, .iface nm (.ptr (.agg [.lit (.string text)]))) :: r) W)
    (hrow : ∀ u, P.typeName? 3 u = some nm → u = tp) (hi : isIfc P ti = true) (he : oneF P te ts = true)
    (hg : P.globalNamed n = some g) (ht : (P.globals[g]?).map (·.type) = some ti)
    (hp : P.underlying tp = some (.pointer te)) (hs : P.underlying ts = some .string) (hc : P.cellsOf te = 1) (hcs : P.cellsOf ts = 1) : ∃ t p, W.var? P n = some #[.iface t p] := by
  obtain ⟨ms, hi⟩ := isIfc_of hi
  obtain ⟨f, he, h1, h2⟩ := oneF_of he
  obtain ⟨a, s, hv, _⟩ := laid_sentinel h hg ht hi hrow hp he h1 h2 hs hc hcs
  exact ⟨_, _, hv⟩
end Go.Proofs.XC
namespace Go.Proofs.XC
open Go Go.RowKit
variable {P : Program} {f : FuncId} {fn : Func} {R : Ending → World → Prop} {M : Nat → Prop} {w0 : World} {its its0 : List Hold} {k k0 k' : List Item} {rs : List Value} {ops : List Oper} {i kk fuel : Nat} {o : Oper} {listed : Array Bool} {α : Type} {e : Enc α}
variable {K : List Hold → List Value → Prop}
/-! ### A call that is handed what its caller holds, and hands it back -/
theorem callsH {c : Code} {args : List Value} (S : St M w0 w0 its) (hf : P.funcs[f]? = some fn) (hb : fn.body = some c)
    (h : GS P f R M w0 its [.code c] (args ++ List.replicate (fn.ntmps - args.length) undef)) : Calls P f args.toArray w0 R := G.calls hf hb (by simpa using h.out w0 S)
theorem St.pass {W : World} {A B : List Hold} {M' : Nat → Prop} (S : St M w0 W (B ++ A)) (hM : ∀ k, M' k ↔ ∃ it ∈ B, it.own k) : St M' W W B := by
  refine ⟨rfl, rfl, rfl, Nat.le_refl _, fun _ _ _ => rfl, fun it hi => ?_, (List.pairwise_append.1 S.apart).1⟩
  obtain ⟨h1, h2, h3⟩ := S.all it (List.mem_append_left _ hi)
  exact ⟨h1, h2, fun k hk => ⟨.inr ((hM k).2 ⟨it, hi, hk⟩), (h3 k hk).2⟩⟩
theorem St.back {W W' : World} {A B B' : List Hold} {M' : Nat → Prop} (S : St M w0 W (B ++ A)) (hM : ∀ k, M' k ↔ ∃ it ∈ B, it.own k) (S' : St M' W W' B') : St M w0 W' (B' ++ A) := by
  have hb : ∀ it ∈ B, ∀ k, it.own k → (w0.heap.size ≤ k ∨ M k) ∧ k < W.heap.size := fun it hi => (S.all it (List.mem_append_left _ hi)).2.2
  have hp := List.pairwise_append.1 S.apart
  have ha : ∀ it ∈ A, ∀ k, it.own k → ¬ M' k := fun it hi k hk hm => by
    obtain ⟨b, hbm, hbk⟩ := (hM k).1 hm
    exact hp.2.2 b hbm it hi k hbk hk
  refine ⟨S'.os.trans S.os, S'.tape.trans S.tape, S'.output.trans S.output, Nat.le_trans S.size S'.size, fun k hk hm => ?_, fun it hi => ?_, ?_⟩
  · rw [S'.keep k (Nat.lt_of_lt_of_le hk S.size) (fun h => by
      obtain ⟨b, hbm, hbk⟩ := (hM k).1 h
      rcases (hb b hbm k hbk).1 with h1 | h1
      · omega
      · exact hm h1)]
    exact S.keep k hk hm
  · rcases List.mem_append.1 hi with hi | hi
    · obtain ⟨h1, h2, h3⟩ := S'.all it hi
      refine ⟨h1, h2, fun k hk => ⟨?_, (h3 k hk).2⟩⟩
      rcases (h3 k hk).1 with h | h
      · exact .inl (Nat.le_trans S.size h)
      · obtain ⟨b, hbm, hbk⟩ := (hM k).1 h
        exact (hb b hbm k hbk).1
    · obtain ⟨h1, h2, h3⟩ := S.all it (List.mem_append_right _ hi)
      refine ⟨h1, h1 W W' (fun k hk => S'.keep k (h3 k hk).2 (ha it hi k hk)) h2, fun k hk => ⟨(h3 k hk).1, Nat.lt_of_lt_of_le (h3 k hk).2 S'.size⟩⟩
  · refine List.pairwise_append.2 ⟨S'.apart, hp.2.1, fun x hx y hy k h1 h2 => ?_⟩
    rcases ((S'.all x hx).2.2 k h1).1 with h | h
    · have := ((S.all y (List.mem_append_right _ hy)).2.2 k h2).2
      omega
    · exact ha y hy k h2 h
theorem e_ch {c : Call} {d : Option Tmp} {g : FuncId} {gfn : Func} {x : Operand} {v : Value} (n : Nat) (B' : Option Addr → Nat → List Hold) (caps : List Value) (args : List Value) (hgf : P.funcs[g]? = some gfn)
    (hc : ∀ W, St M w0 W its → ∀ M', (∀ k, M' k ↔ ∃ it ∈ its.take n, it.own k) → St M' W W (its.take n) → Calls P g args.toArray W (fun en W' => en = .returned v ∧ ∃ A c, St M' W W' (B' A c)))
    (h : ∀ A c, K (B' A c ++ its.drop n) (pt rs d v))
    (hop : o.op = .call c := by rfl) (hd : o.dst = d := by rfl) (hcal : c.callee = .value x := by rfl) (hx : ev rs x = .func (.func g) #[] caps.toArray := by kernel_rfl) (hb : gfn.body.isNone = false := by rfl) (hn : (gfn.name == "runtime.NumGoroutine") = false := by kernel_rfl) (ha : c.args.toList.map (ev rs) ++ caps = args := by kernel_rfl) : Ex P M w0 its o rs K := by
  refine .enter (g := g) (args := args) fun W S => ⟨run_call (fst := #[]) hop hcal hx hgf hb hn (by simpa using ha) W, ?_⟩
  have S1 : St M w0 W (its.take n ++ its.drop n) := by rw [List.take_append_drop]; exact S
  refine (hc W S (fun k => ∃ it ∈ its.take n, it.own k) (fun k => Iff.rfl) (S1.pass fun k => Iff.rfl)).mono ?_
  rintro en W' ⟨rfl, A, c, S'⟩
  exact ⟨v, B' A c ++ its.drop n, rfl, S1.back (fun k => Iff.rfl) S', by rw [hd]; exact h A c⟩
/-- A slice that came in, apart from what is handed on. -/
theorem ap_old {W : World} {M' : Nat → Prop} {n : Nat} {A : Option Addr} {c : Nat} {l : List α} (h : RdT e w0 (.slice A l.length c) l) (q : 0 < l.length → ∀ k, (Value.slice A l.length c).ownBlock = some k → ¬ M k) (S : St M w0 W its) (hM : ∀ k, M' k ↔ ∃ it ∈ its.take n, it.own k) : 0 < l.length → ∀ k, (Value.slice A l.length c).ownBlock = some k → ¬ M' k := by
  intro hn k hk hm
  obtain ⟨it, hi, ho⟩ := (hM k).1 hm
  obtain ⟨A2, c2, e1, _, _, _, h4⟩ := h
  obtain ⟨b, off, e2, hb, _⟩ := h4 hn
  injection e1 with e1 _ _
  subst e1
  subst e2
  have hk' : b = k := Option.some.inj hk
  rcases ((S.all it (List.mem_of_mem_take hi)).2.2 k ho).1 with h1 | h1
  · omega
  · exact q hn k hk h1
theorem ap_rowH {W : World} {M' : Nat → Prop} {n : Nat} {B t : Nat} {A : Option Addr} {c : Nat} {l : List α} (S : St M w0 W its) (j : Nat) (hj : n ≤ j) (hM : ∀ k, M' k ↔ ∃ it ∈ its.take n, it.own k) (h : nh its j = some (rowT e B t (.slice A l.length c) l) := by rfl) : 0 < l.length → ∀ k, (Value.slice A l.length c).ownBlock = some k → ¬ M' k := by
  intro _ k hk hm
  obtain ⟨it, hi, ho⟩ := (hM k).1 hm
  rw [nh_eq] at h
  have h' : (its.drop n)[j - n]? = some (rowT e B t (.slice A l.length c) l) := by rw [List.getElem?_drop, show n + (j - n) = j by omega]; exact h
  have S1 : St M w0 W (its.take n ++ its.drop n) := by rw [List.take_append_drop]; exact S
  exact (List.pairwise_append.1 S1.apart).2.2 it hi _ (List.mem_of_getElem? h') k ho hk
theorem ap_nilM {M' : Nat → Prop} {α : Type} : 0 < ([] : List α).length → ∀ k, (Value.slice none 0 0).ownBlock = some k → ¬ M' k := fun h => by simp at h
/-- A row of which is known whether it is nil. -/
def nilv : Value → Bool
  | .slice A _ _ => A.isNone
  | _ => false
def rowN (e : Enc α) (B t : Nat) (v : Value) (l : List α) : Hold := ⟨fun k => v.ownBlock = some k, fun W => (rowT e B t v l).F W ∧ nilv v = l.isEmpty⟩
theorem rowN_good (e : Enc α) (B t : Nat) (v : Value) (l : List α) : (rowN e B t v l).good := fun W W' h hF => ⟨rowT_good (e := e) B t v l W W' h hF.1, hF.2⟩
theorem f_nilN {B t : Nat} {A : Option Addr} {c : Nat} {l : List α} (j : Nat) (h : nh its j = some (rowN e B t (.slice A l.length c) l) := by rfl) : ∀ W, St M w0 W its → A.isNone = l.isEmpty := fun W S => by
  rw [nh_eq] at h
  exact (S.get h).2
theorem St.toN {W : World} {B t : Nat} {A : Option Addr} {c : Nat} {l : List α} (S : St M w0 W its) (j : Nat) (hB : B ≤ w0.heap.size) (hne : l.isEmpty = false) (h : nh its j = some (rowT e w0.heap.size t (.slice A l.length c) l) := by rfl) : St M w0 W (sh its j (rowN e B t (.slice A l.length c) l)) := by
  refine S.chg h (rowN_good _ _ _ _ _) (fun hF => ?_) fun k hk => hk
  have hown : W.ownsRow w0.heap.size t e.sz (.slice A l.length c) l.length (e.flat l) := hF
  refine ⟨own_weaken' hown hB, ?_⟩
  rw [hne]
  obtain ⟨_, h0 | ⟨g, cap, cur, hv, _⟩⟩ := hown
  · exfalso
    have : l.length = 0 := by
      have := h0
      simp_all
    have : l = [] := List.eq_nil_of_length_eq_zero this
    subst this
    cases hne
  · injection hv with h1 _ _
    subst h1
    rfl
theorem o_toN (j : Nat) {B t : Nat} {A : Option Addr} {c : Nat} {l : List α} (hB : B ≤ w0.heap.size) (hne : l.isEmpty = false) (h : OS P f R M w0 (sh its j (rowN e B t (.slice A l.length c) l)) k ops i rs) (hj : nh its j = some (rowT e w0.heap.size t (.slice A l.length c) l) := by rfl) : OS P f R M w0 its k ops i rs :=
  ⟨fun W S => h.out W (S.toN j hB hne hj)⟩
theorem St.ofN {W : World} {B t : Nat} {A : Option Addr} {c : Nat} {l : List α} (S : St M w0 W its) (j : Nat) (h : nh its j = some (rowN e B t (.slice A l.length c) l) := by rfl) : St M w0 W (sh its j (rowT e B t (.slice A l.length c) l)) :=
  S.chg h (rowT_good _ _ _ _) (fun hF => hF.1) fun k hk => hk
theorem c_ofN (j : Nat) {B t : Nat} {A : Option Addr} {c : Nat} {l : List α} (h : GS P f R M w0 (sh its j (rowT e B t (.slice A l.length c) l)) k rs) (hj : nh its j = some (rowN e B t (.slice A l.length c) l) := by rfl) : GS P f R M w0 its k rs := ⟨fun W S => h.out W (S.ofN j hj)⟩
theorem St.nil0 {W : World} {B t : Nat} (S : St M w0 W its) (j : Nat) (h : nh its j = some (rowT e B t (.slice none 0 0) ([] : List α)) := by rfl) : St M w0 W (sh its j (rowN e B t (.slice none 0 0) ([] : List α))) :=
  S.chg h (rowN_good _ _ _ _ _) (fun hF => ⟨hF, rfl⟩) fun k hk => hk
theorem o_ofN (j : Nat) {B t : Nat} {A : Option Addr} {c : Nat} {l : List α} (h : OS P f R M w0 (sh its j (rowT e B t (.slice A l.length c) l)) k ops i rs) (hj : nh its j = some (rowN e B t (.slice A l.length c) l) := by rfl) : OS P f R M w0 its k ops i rs := ⟨fun W S => h.out W (S.ofN j hj)⟩
theorem o_nil0 (j : Nat) {B t : Nat} (h : OS P f R M w0 (sh its j (rowN e B t (.slice none 0 0) ([] : List α))) k ops i rs) (hj : nh its j = some (rowT e B t (.slice none 0 0) ([] : List α)) := by rfl) : OS P f R M w0 its k ops i rs := ⟨fun W S => h.out W (S.nil0 j hj)⟩
end Go.Proofs.XC
namespace Go.Proofs.XC
open Go Go.RowKit
variable {P : Program} {f : FuncId} {fn : Func} {R : Ending → World → Prop} {M : Nat → Prop} {w0 : World} {its its0 : List Hold} {k k0 k' : List Item} {rs : List Value} {ops : List Oper} {i kk fuel : Nat} {o : Oper} {listed : Array Bool} {α : Type} {e : Enc α}
variable {K : List Hold → List Value → Prop}
/-! ### Rows of rows that are only read -/
theorem RdT.keep {W W' : World} {A : Option Addr} {c : Nat} {l : List α} (h : RdT e W (.slice A l.length c) l) (hk : 0 < l.length → ∀ k, (Value.slice A l.length c).ownBlock = some k → W'.heap[k]? = W.heap[k]?) : RdT e W' (.slice A l.length c) l := by
  obtain ⟨A2, c2, e1, h2, h3, h3', h4⟩ := h
  refine ⟨A2, c2, e1, h2, h3, h3', fun hn => ?_⟩
  obtain ⟨b, off, e2, hb, hc⟩ := h4 hn
  injection e1 with e1 _ e3
  subst e1
  subst e2
  have h := hk hn b rfl
  refine ⟨b, off, rfl, ?_, fun j u hj => ?_⟩
  · rcases Nat.lt_or_ge b W'.heap.size with h1 | h1
    · exact h1
    · rw [Array.getElem?_eq_none h1, Array.getElem?_eq_getElem hb] at h
      cases h
  · rw [← hc j u hj]
    unfold World.cell?
    simp only [h]
theorem RdT.lt {W : World} {A : Option Addr} {n c : Nat} {l : List α} (h : RdT e W (.slice A l.length c) l) (hn : 0 < l.length) : ∀ k, (Value.slice A n c).ownBlock = some k → k < W.heap.size := by
  intro k hk
  obtain ⟨A2, c2, e1, _, _, _, h4⟩ := h
  obtain ⟨b, off, e2, hb, _⟩ := h4 hn
  injection e1 with e1 _ _
  subst e1
  subst e2
  have hk' : b = k := Option.some.inj hk
  omega
def rdis (e : Enc α) (us : List Sl) (ls : List (List α)) : Hold := ⟨fun k => ∃ s ∈ us, 0 < s.n ∧ s.v.ownBlock = some k, fun W => RdI e W us ls⟩
theorem rdis_good (e : Enc α) (us : List Sl) (ls : List (List α)) : (rdis e us ls).good := by
  intro W W' h hF
  have hF : RdI e W us ls := hF
  refine ⟨hF.len, fun i s l hs hl => ?_⟩
  obtain ⟨h1, h2⟩ := hF.row i s l hs hl
  refine ⟨h1, RdT.keep h2 fun hn k hk => h k ⟨s, List.mem_of_getElem? hs, by omega, ?_⟩⟩
  unfold Sl.v
  rw [own_any (n' := l.length) (c' := s.c)]
  exact hk
theorem RdI.nil (e : Enc α) (W : World) : RdI e W [] [] := ⟨rfl, fun i s l h => by simp at h⟩
theorem RdI.app {W : World} {us vs : List Sl} {ls ms : List (List α)} (h : RdI e W us ls) (h' : RdI e W vs ms) : RdI e W (us ++ vs) (ls ++ ms) := by
  refine ⟨by simp [h.len, h'.len], fun i s l hs hl => ?_⟩
  rcases Nat.lt_or_ge i us.length with h1 | h1
  · rw [List.getElem?_append_left h1] at hs
    rw [List.getElem?_append_left (by rw [← h.len]; exact h1)] at hl
    exact h.row i s l hs hl
  · rw [List.getElem?_append_right h1] at hs
    rw [List.getElem?_append_right (by rw [← h.len]; exact h1), ← h.len] at hl
    exact h'.row _ s l hs hl
/-- A row of rows as a result: the outer row is new; the inner ones are new, or the one that came in. -/
abbrev RetO (e : Enc α) (t : TypeId) (ob : Option Nat) (w : World) (ls : List (List α)) : Ending → World → Prop := fun en W' => ∃ A c us, en = .returned (.slice A (List.length us) c) ∧ W'.ownsRow w.heap.size t 1 (.slice A (List.length us) c) (List.length us) (eSl.flat us) ∧ RdI e W' us ls ∧ (∀ k, (Value.slice A (List.length us) c).ownBlock = some k → ¬ ∃ s ∈ us, 0 < s.n ∧ s.v.ownBlock = some k) ∧ (∀ k, (∃ s ∈ us, 0 < s.n ∧ s.v.ownBlock = some k) → (w.heap.size ≤ k ∨ ob = some k) ∧ k < W'.heap.size) ∧ Below w.heap.size w W'
theorem St.cro {W W' : World} {pre : List Hold} {x : Hold} {t : TypeId} {ob : Option Nat} {A : Option Addr} {c : Nat} {us : List Sl} {ls : List (List α)} (S : St M w0 W (pre ++ [x])) (hob : ∀ k, ob = some k → x.own k)
    (hown : W'.ownsRow W.heap.size t 1 (.slice A (List.length us) c) (List.length us) (eSl.flat us)) (hin : RdI e W' us ls) (hap : ∀ k, (Value.slice A (List.length us) c).ownBlock = some k → ¬ ∃ s ∈ us, 0 < s.n ∧ s.v.ownBlock = some k) (hlt : ∀ k, (∃ s ∈ us, 0 < s.n ∧ s.v.ownBlock = some k) → (W.heap.size ≤ k ∨ ob = some k) ∧ k < W'.heap.size) (hb : Below W.heap.size W W') :
    St M w0 W' (pre ++ [rowT eSl w0.heap.size t (.slice A us.length c) us, rdis e us ls]) := by
  have S0 : St M w0 W pre := S.sub (List.sublist_append_left _ _)
  have hx := S.all x (by simp)
  have hpx := (List.pairwise_append.1 S.apart).2.2
  have S1 : St M w0 W' (pre ++ [rowT eSl w0.heap.size t (.slice A us.length c) us]) := by
    refine S0.add hb (rowT_good _ _ _ _) (own_weaken' hown S.size) ?_
    intro k hk
    have hk' : (Value.slice A us.length c).ownBlock = some k := hk
    exact hown.lt k hk'
  have e1 : pre ++ [rowT eSl w0.heap.size t (.slice A us.length c) us, rdis e us ls] = (pre ++ [rowT eSl w0.heap.size t (.slice A us.length c) us]) ++ [rdis e us ls] := by simp
  refine ⟨S1.os, S1.tape, S1.output, S1.size, S1.keep, fun it hi => ?_, ?_⟩
  · rw [e1] at hi
    rcases List.mem_append.1 hi with hi | hi
    · exact S1.all it hi
    · rw [List.mem_singleton] at hi
      subst hi
      refine ⟨rdis_good _ _ _, hin, fun k hk => ⟨?_, (hlt k hk).2⟩⟩
      rcases (hlt k hk).1 with h | h
      · exact .inl (Nat.le_trans S.size h)
      · exact (hx.2.2 k (hob k h)).1
  · rw [e1]
    refine List.pairwise_append.2 ⟨S1.apart, by simp, fun y hy z hz k h1 h2 => ?_⟩
    rw [List.mem_singleton] at hz
    subst hz
    rcases List.mem_append.1 hy with hy | hy
    · rcases (hlt k h2).1 with g2 | g2
      · have g1 := ((S0.all y hy).2.2 k h1).2
        omega
      · exact hpx y hy x (by simp) k h1 (hob k g2)
    · rw [List.mem_singleton] at hy
      subst hy
      exact hap k h1 h2
theorem e_cro {c : Call} {d : Option Tmp} {g : FuncId} {gfn : Func} {t : TypeId} {ls : List (List α)} {ob : Option Nat} (pre : List Hold) (x : Hold) (args : List Value) (hgf : P.funcs[g]? = some gfn)
    (hc : ∀ W, St M w0 W its → Calls P g args.toArray W (RetO e t ob W ls)) (hob : ∀ k, ob = some k → x.own k)
    (h : ∀ A cp us, K (pre ++ [rowT eSl w0.heap.size t (.slice A (List.length us) cp) us, rdis e us ls]) (pt rs d (.slice A (List.length us) cp)))
    (hits : its = pre ++ [x] := by rfl)
    (hop : o.op = .call c := by rfl) (hd : o.dst = d := by rfl) (hcal : c.callee = .value (.func g) := by rfl)
    (hb : gfn.body.isNone = false := by rfl) (hn : (gfn.name == "runtime.NumGoroutine") = false := by kernel_rfl) (ha : c.args.toList.map (ev rs) = args := by kernel_rfl) : Ex P M w0 its o rs K := by
  subst hits
  refine .enter (g := g) (args := args) fun W S => ⟨run_call (fst := #[]) (caps := #[]) hop hcal (x := .func g) rfl hgf hb hn (by simpa using ha) W, (hc W S).mono ?_⟩
  rintro en W' ⟨A, cp, us, rfl, hown, hin, hap, hlt, hbl⟩
  exact ⟨_, _, rfl, S.cro hob hown hin hap hlt hbl, by rw [hd]; exact h A cp us⟩
theorem e_cro0 {c : Call} {d : Option Tmp} {g : FuncId} {gfn : Func} {t : TypeId} {ls : List (List α)} (args : List Value) (hgf : P.funcs[g]? = some gfn)
    (hc : ∀ W, St M w0 W its → Calls P g args.toArray W (RetO e t none W ls))
    (h : ∀ A cp us, K (its ++ [rowT eSl w0.heap.size t (.slice A (List.length us) cp) us, rdis e us ls]) (pt rs d (.slice A (List.length us) cp)))
    (hop : o.op = .call c := by rfl) (hd : o.dst = d := by rfl) (hcal : c.callee = .value (.func g) := by rfl)
    (hb : gfn.body.isNone = false := by rfl) (hn : (gfn.name == "runtime.NumGoroutine") = false := by kernel_rfl) (ha : c.args.toList.map (ev rs) = args := by kernel_rfl) : Ex P M w0 its o rs K := by
  refine .enter (g := g) (args := args) fun W S => ⟨run_call (fst := #[]) (caps := #[]) hop hcal (x := .func g) rfl hgf hb hn (by simpa using ha) W, (hc W S).mono ?_⟩
  rintro en W' ⟨A, cp, us, rfl, hown, hin, hap, hlt, hbl⟩
  have Sd : St M w0 W (its ++ [dead]) := S.add (Below.refl _ _) dead_good trivial fun k hk => hk.elim
  exact ⟨_, _, rfl, Sd.cro (fun k hk => by cases hk) hown hin hap hlt hbl, by rw [hd]; exact h A cp us⟩
theorem St.rdi {W : World} {us : List Sl} {ls : List (List α)} (S : St M w0 W its) (j : Nat) (h : nh its j = some (rdis e us ls) := by rfl) : RdI e W us ls := by
  rw [nh_eq] at h
  exact S.get h
theorem i_ownR {us : List Sl} {ls : List (List α)} (j : Nat) (h : nh its j = some (rdis e us ls) := by rfl) : SrcI M w0 its e us ls := ⟨fun W S => S.rdi j h⟩
/-- Rows of rows, still empty. -/
theorem c_rdi (e : Enc α) (h : GS P f R M w0 (its ++ [rdis e [] []]) k rs) : GS P f R M w0 its k rs := ⟨fun W S => h.out W (S.add (Below.refl _ _) (rdis_good _ _ _) (RdI.nil _ _) (by rintro k ⟨s, hs, _⟩; cases hs))⟩
/-- Two of them become one. -/
theorem mergeR (ix : List Nat) (r : List Hold) {us vs : List Sl} {ls ms q : List (List α)} (hq : q = ls ++ ms) (h : OS P f R M w0 (r ++ [rdis e (us ++ vs) q]) k ops i rs)
    (e1 : selH its ix = some (r ++ [rdis e us ls, rdis e vs ms]) := by kernel_rfl) (hn : nodupB ix = true := by kernel_rfl) : OS P f R M w0 its k ops i rs := by
  subst hq
  refine ⟨fun W S => h.out W ((S.sel ix e1 hn).merge (rdis_good _ _ _) (fun h1 h2 _ => RdI.app h1 h2) fun k hk => ?_)⟩
  obtain ⟨s, hs, hk⟩ := hk
  rcases List.mem_append.1 hs with hs | hs
  · exact .inl ⟨s, hs, hk⟩
  · exact .inr ⟨s, hs, hk⟩
theorem St.retO {W : World} {t : TypeId} {ob : Option Nat} {A : Option Addr} {c : Nat} {us : List Sl} {ls : List (List α)} (S : St no w0 W its) (j q : Nat) (hjq : j ≠ q) (hj : nh its j = some (rowT eSl w0.heap.size t (.slice A us.length c) us) := by rfl) (hq : nh its q = some (rdis e us ls) := by rfl) : RetO e t ob w0 ls (.returned (.slice A us.length c)) W := by
  refine ⟨A, c, us, rfl, S.row j hj, S.rdi q hq, ?_, ?_, S.below⟩
  · rw [nh_eq] at hj hq
    exact S.two hjq hj hq
  · intro k hk
    rw [nh_eq] at hq
    have := S.own hq k hk
    rcases this with ⟨h | h, h2⟩
    · exact ⟨.inl h, h2⟩
    · exact h.elim
theorem St.retO1 {W : World} {t : TypeId} {A A1 : Option Addr} {c c1 : Nat} {l : List α} (S : St no w0 W its) (h1 : RdT e w0 (.slice A1 l.length c1) l) (j : Nat) (hj : nh its j = some (rowT eSl w0.heap.size t (.slice A (List.length [(⟨A1, l.length, c1⟩ : Sl)]) c) [(⟨A1, l.length, c1⟩ : Sl)]) := by rfl) : RetO e t (Value.slice A1 l.length c1).ownBlock w0 [l] (.returned (.slice A (List.length [(⟨A1, l.length, c1⟩ : Sl)]) c)) W := by
  have hown := S.row j hj
  refine ⟨A, c, [⟨A1, l.length, c1⟩], rfl, hown, ?_, ?_, ?_, S.below⟩
  · refine ⟨rfl, fun i s x hs hx => ?_⟩
    match i with
    | 0 =>
      simp only [List.getElem?_cons_zero, Option.some.injEq] at hs hx
      subst hs
      subst hx
      exact ⟨rfl, Rd.up h1 S.below⟩
    | i + 1 => simp at hs
  · rintro k hk ⟨s, hs, h0, hk2⟩
    rw [List.mem_singleton] at hs
    subst hs
    have g1 := RdT.lt h1 h0 (n := l.length) k hk2
    have g2 := (hown.lt k hk).1
    omega
  · rintro k ⟨s, hs, h0, hk2⟩
    rw [List.mem_singleton] at hs
    subst hs
    exact ⟨.inr hk2, Nat.lt_of_lt_of_le (RdT.lt h1 h0 (n := l.length) k hk2) S.size⟩
/-- The slice at a place of a row of rows, or the nil slice. -/
def blS (us : List Sl) (z : Int) : Sl := if z < 0 then ⟨none, 0, 0⟩ else us.getD z.toNat ⟨none, 0, 0⟩
def blL (ls : List (List α)) (z : Int) : List α := if z < 0 then [] else ls.getD z.toNat []
theorem bl_at {us : List Sl} {ls : List (List α)} {z : Int} {s : Sl} {l : List α} (hs : getI us z = some s) (hl : getI ls z = some l) : blS us z = s ∧ blL ls z = l := by
  obtain ⟨h0, _, h1⟩ := getI_some hs
  obtain ⟨_, _, h2⟩ := getI_some hl
  unfold blS blL
  rw [if_neg (by omega), if_neg (by omega), List.getD_eq_getElem?_getD, List.getD_eq_getElem?_getD, h1, h2]
  exact ⟨rfl, rfl⟩
theorem sl_bl {us : List Sl} {ls : List (List α)} {z : Int} {s : Sl} {l : List α} (hs : getI us z = some s) (hl : getI ls z = some l) : Value.slice s.A l.length s.c = Value.slice (blS us z).A (blL ls z).length (blS us z).c := by
  obtain ⟨h1, h2⟩ := bl_at hs hl
  rw [h1, h2]
theorem rd_bl {W : World} {us : List Sl} {ls : List (List α)} (h : RdI e W us ls) (z : Int) : RdT e W (.slice (blS us z).A (blL ls z).length (blS us z).c) (blL ls z) := by
  unfold blS blL
  by_cases hz : z < 0
  · rw [if_pos hz, if_pos hz]
    exact ⟨none, 0, rfl, by simp [Enc.flat], by simp, by simp, fun h => by simp at h⟩
  · rw [if_neg hz, if_neg hz]
    have hl := h.len
    rcases Nat.lt_or_ge z.toNat us.length with h1 | h1
    · rw [List.getD_eq_getElem?_getD, List.getD_eq_getElem?_getD, List.getElem?_eq_getElem h1, List.getElem?_eq_getElem (by omega)]
      exact (h.row z.toNat _ _ (List.getElem?_eq_getElem h1) (List.getElem?_eq_getElem (by omega))).2
    · rw [List.getD_eq_getElem?_getD, List.getD_eq_getElem?_getD, List.getElem?_eq_none h1, List.getElem?_eq_none (by omega)]
      exact ⟨none, 0, rfl, by simp [Enc.flat], by simp, by simp, fun h => by simp at h⟩
theorem s_bl {us : List Sl} {ls : List (List α)} (hi : SrcI M w0 its e us ls) (z : Int) : Src M w0 its e (blS us z).A (blS us z).c (blL ls z) := ⟨fun W S => rd_bl (hi.out W S) z⟩
/-- A new slice that is only read. -/
def rdO (e : Enc α) (v : Value) (l : List α) : Hold := ⟨fun k => 0 < l.length ∧ v.ownBlock = some k, fun W => RdT e W v l⟩
theorem rdO_good (e : Enc α) (A : Option Addr) (c : Nat) (l : List α) : (rdO e (.slice A l.length c) l).good := fun W W' h hF => RdT.keep hF fun hn k hk => h k ⟨hn, hk⟩
theorem s_ownO {A : Option Addr} {c : Nat} {l : List α} (j : Nat) (h : nh its j = some (rdO e (.slice A l.length c) l) := by rfl) : Src M w0 its e A c l := by
  rw [nh_eq] at h
  exact ⟨fun W S => S.get h⟩
abbrev RetRO (e : Enc α) (w : World) (l : List α) (res : Value → Value) : Ending → World → Prop := fun en W' => ∃ A c, en = .returned (res (.slice A l.length c)) ∧ RdT e W' (.slice A l.length c) l ∧ (0 < l.length → ∀ k, (Value.slice A l.length c).ownBlock = some k → w.heap.size ≤ k ∧ k < W'.heap.size) ∧ Below w.heap.size w W'
theorem e_crO {c : Call} {d : Option Tmp} {g : FuncId} {gfn : Func} {l : List α} (args : List Value) (res : Value → Value) (hgf : P.funcs[g]? = some gfn)
    (hc : ∀ W, St M w0 W its → Calls P g args.toArray W (RetRO e W l res))
    (h : ∀ A cp, K (its ++ [rdO e (.slice A l.length cp) l]) (pt rs d (res (.slice A l.length cp))))
    (hop : o.op = .call c := by rfl) (hd : o.dst = d := by rfl) (hcal : c.callee = .value (.func g) := by rfl)
    (hb : gfn.body.isNone = false := by rfl) (hn : (gfn.name == "runtime.NumGoroutine") = false := by kernel_rfl) (ha : c.args.toList.map (ev rs) = args := by kernel_rfl) : Ex P M w0 its o rs K := by
  refine .enter (g := g) (args := args) fun W S => ⟨run_call (fst := #[]) (caps := #[]) hop hcal (x := .func g) rfl hgf hb hn (by simpa using ha) W, (hc W S).mono ?_⟩
  rintro en W' ⟨A, cp, rfl, hrd, hlt, hbl⟩
  exact ⟨_, its ++ [rdO e (.slice A l.length cp) l], rfl, S.add hbl (rdO_good _ _ _ _) hrd fun k hk => hlt hk.1 k hk.2, by rw [hd]; exact h A cp⟩
theorem retRO_nil {W : World} {res : Value → Value} (S : St no w0 W its) : RetRO e w0 [] res (.returned (res (.slice none 0 0))) W :=
  ⟨none, 0, rfl, ⟨none, 0, rfl, by simp [Enc.flat], by simp, by simp, fun h => by simp at h⟩, fun h => by simp at h, S.below⟩
theorem St.retRO {W : World} {us : List Sl} {ls : List (List α)} {z : Int} {res : Value → Value} (S : St no w0 W its) (q : Nat) (hq : nh its q = some (rdis e us ls) := by rfl) : RetRO e w0 (blL ls z) res (.returned (res (.slice (blS us z).A (blL ls z).length (blS us z).c))) W := by
  refine ⟨_, _, rfl, rd_bl (S.rdi q hq) z, fun hn k hk => ?_, S.below⟩
  have hr := S.rdi q hq
  have hl := hr.len
  have key : ∃ s ∈ us, 0 < s.n ∧ s.v.ownBlock = some k := by
    unfold blL at hn
    unfold blS at hk
    by_cases hz : z < 0
    · rw [if_pos hz] at hn
      simp at hn
    · rw [if_neg hz] at hn hk
      rcases Nat.lt_or_ge z.toNat us.length with h1 | h1
      · rw [List.getD_eq_getElem?_getD, List.getElem?_eq_getElem h1] at hk
        rw [List.getD_eq_getElem?_getD, List.getElem?_eq_getElem (by omega)] at hn
        have := (hr.row z.toNat _ _ (List.getElem?_eq_getElem h1) (List.getElem?_eq_getElem (by omega))).1
        refine ⟨us[z.toNat], List.getElem_mem h1, ?_, ?_⟩
        · rw [this]
          exact hn
        · unfold Sl.v
          rw [own_any (n' := (blL ls z).length) (c' := us[z.toNat].c)]
          exact hk
      · rw [List.getD_eq_getElem?_getD, List.getElem?_eq_none (by omega)] at hn
        simp at hn
  rw [nh_eq] at hq
  rcases S.own hq k key with ⟨h | h, h2⟩
  · exact ⟨h, h2⟩
  · exact h.elim
end Go.Proofs.XC
