/- Further rules by which a function of the given program is walked symbolically: no claim by itself. By AI agents; no person has read it. -/
import Derived.Test.YtaoeiaoenjilbaaGreatDoorC1
import Derived.Test.YtaoeiaoenjilbaaGreatDoorX2
set_option linter.unusedVariables false
set_option linter.unusedSimpArgs false
set_option maxRecDepth 100000
set_option maxHeartbeats 40000000
namespace Go.Proofs.XC
open Go Go.RowKit
variable {P : Program} {f : FuncId} {fn : Func} {R : Ending → World → Prop} {M : Nat → Prop} {w0 W W2 : World} {its its0 its' : List Hold} {k : List Item} {rs : List Value} {ops : List Oper} {i kk fuel : Nat} {o : Oper} {listed : Array Bool} {α β : Type} {e : Enc α} {e' : Enc β}
variable {K : List Hold → List Value → Prop}
/-! ### The end of a row is cleared: its front stays -/
theorem e_clr {t el : TypeId} {cl : Call} {x : Operand} {d : Option Tmp} {B : Nat} {A : Option Addr} {n c m : Nat} {l : List α} {q : Nat} (j : Nat) (hq : q < l.length) (hm : m = l.length - q)
    (h : K (sh its j (argW e B el A q c (l.take q))) (pt rs d (.tuple #[])))
    (hj : nh its j = some (argW e B el A n c l) := by rfl)
    (hop : o.op = .call cl := by rfl) (hcl : cl.callee = .builtin .clear := by rfl) (ha : cl.args = #[x] := by rfl) (hat : cl.argTypes = #[t] := by rfl) (hd : o.dst = d := by rfl)
    (hx : ev rs x = .slice (cutA e A c q) m (c - q) := by kernel_rfl) (ht : P.underlying t = some (.slice el) := by kernel_rfl)
    (hz : ((P.info? el).bind (·.zero)).map (fun z => (z.cells.size, z.cells.toList.all (·.oneCell'))) = some (e.sz, true) := by kernel_rfl) : Ex P M w0 its o rs K := by
  refine .value fun W S => ?_
  obtain ⟨ti, zv, hi, hz', hzc, hzo⟩ : ∃ ti zv, P.info? el = some ti ∧ ti.zero = some zv ∧ zv.cells.size = e.sz ∧ zv.cells.toList.all (·.oneCell') = true := by
    cases hi : P.info? el with
    | none => simp [hi] at hz
    | some ti =>
      cases hzz : ti.zero with
      | none => simp [hi, hzz] at hz
      | some zv =>
        simp only [hi, hzz, Option.bind_some, Option.map_some, Option.some.injEq, Prod.mk.injEq] at hz
        exact ⟨ti, zv, rfl, hzz, hz.1, hz.2⟩
  rw [nh_eq] at hj
  obtain ⟨hln, hown⟩ := S.get hj
  subst hln
  subst hm
  rcases hown.2 with ⟨_, h2⟩ | ⟨g, cap, cur, h2, hbg, hh, hnc, hcm, hcs, htk⟩
  · omega
  injection h2 with h2 _ h3
  subst h2
  subst h3
  have hcz : cur.toList.length = cur.size := Array.length_toList
  have hcl : l.length * e.sz ≤ cur.size := by
    rw [hcs]
    exact Nat.mul_le_mul_right _ hnc
  have hcut : cutA e (some ⟨g, 0, none⟩) c q = some ⟨g, q * e.sz, none⟩ := by
    unfold cutA
    rw [if_neg (by omega)]
    have hadd : (⟨g, 0, none⟩ : Addr).add (q * e.sz) = ⟨g, 0 + q * e.sz, none⟩ := by unfold Addr.add; split <;> simp_all
    rw [Option.map_some, hadd, Nat.zero_add]
  have hzl : (Builtin.zeroCells zv.cells (l.length - q)).toList.length = (l.length - q) * e.sz := by
    simp [Builtin.zeroCells, hzc]
  have hfit : q * e.sz + (l.length - q) * e.sz ≤ cur.size := by
    rw [← Nat.add_mul, show q + (l.length - q) = l.length by omega]
    exact hcl
  have hone : ∀ v ∈ (Builtin.zeroCells zv.cells (l.length - q)).toList, v.oneCell' = true := by
    intro v hv
    simp only [Builtin.zeroCells, Array.toList_map, Array.toList_range, List.mem_map, List.mem_range] at hv
    obtain ⟨a, ha, rfl⟩ := hv
    have hp := e.pos
    have hlt : a % zv.cells.size < zv.cells.size := Nat.mod_lt _ (by omega)
    rw [getElem!_pos zv.cells _ hlt]
    exact (List.all_eq_true.1 hzo) _ (by simp)
  have hrun := run_storeCells_at P g (q * e.sz) el (Builtin.zeroCells zv.cells (l.length - q)).toList 0 cur W hh (by rw [hzl]; omega) hone
  have he : cl = { callee := .builtin .clear, args := #[x], argTypes := #[t] } := by
    cases cl
    simp_all
  have hzr : ∀ w, (zeroValue el).run P w = .ok zv w := fun w => by simp [zeroValue, typeInfo, hi, hz']
  obtain ⟨m, hm⟩ : ∃ m, l.length - q = m + 1 := ⟨l.length - q - 1, by omega⟩
  have hlq : (l.take q).length = q := by rw [List.length_take]; omega
  refine ⟨.tuple #[], W.setRow g (cur.toList.take (q * e.sz + 0) ++ (Builtin.zeroCells zv.cells (l.length - q)).toList ++ cur.toList.drop (q * e.sz + 0 + (Builtin.zeroCells zv.cells (l.length - q)).toList.length)).toArray, _, ?_, ?_, by rw [hd]; exact h⟩
  · subst he
    rw [hcut] at hx
    simp only [execOp, hop, resolve, invoke, builtin, Sem.run_bind, Sem.run_pure, Result.andThen_ok, List.map_toArray, List.map_cons, List.map_nil, hx]
    rw [hm] at hrun ⊢
    simp [Builtin.clear_, run_underlying ht, hzr, hrun]
  · rw [sh_eq]
    refine S.upd hj rfl rfl rfl (by simp) (fun k hk hne => setRow_other W g k _ (fun e1 => hne ?_)) (argW_good _ _ _ _ _ _ _) ⟨hlq, ?_⟩ ?_
    · subst e1; rfl
    · refine ⟨by rw [e.flat_length, hlq], .inr ⟨g, c, _, rfl, hbg, setRow_heap W g cur _ el (0, 0) hh, by omega, hcm, ?_, ?_⟩⟩
      · rw [List.size_toArray, List.length_append, List.length_append, List.length_take, List.length_drop, hzl, hcz, Nat.min_eq_left (by omega), hcs]
        rw [hcs] at hfit
        omega
      · rw [List.toList_toArray, List.append_assoc, List.take_append_of_le_length (by rw [List.length_take]; omega), Nat.add_zero, List.take_take, Nat.min_self]
        have h6 : e.flat l = e.flat (l.take q) ++ e.flat (l.drop q) := by rw [← e.flat_app, List.take_append_drop]
        have h7 : (cur.toList.take (l.length * e.sz)).take (q * e.sz) = e.flat (l.take q) := by
          rw [htk, h6, List.take_append_of_le_length (by rw [e.flat_length, hlq]; omega), List.take_of_length_le (by rw [e.flat_length, hlq]; omega)]
        rw [List.take_take, Nat.min_eq_left (Nat.mul_le_mul_right _ (by omega))] at h7
        exact h7
    · intro k hk
      have hk' : (Value.slice (some ⟨g, 0, none⟩) q c).ownBlock = some k := hk
      simp only [Value.ownBlock, Option.some.injEq] at hk'
      subst hk'
      exact ⟨.inl rfl, by simpa using (S.own hj g rfl).2⟩
theorem St.retC {W : World} {B t : Nat} {A : Option Addr} {n n2 c c2 : Nat} {l : List α} (S : St (fun k => (Value.slice A n2 c2).ownBlock = some k) w0 W its) (h : nh its 0 = some (argW e B t A n c l) := by rfl) (hn : l.length = n := by rfl) : RetC e B t A c w0 l (.returned (.slice A n c)) W := by
  subst hn
  rw [nh_eq] at h
  have hF := S.get h
  refine ⟨rfl, hF.2, S.os, S.tape, S.output, S.size, fun k hk hne => S.keep k hk fun h => hne ?_⟩
  rw [← h]
  exact own_any
theorem rd_le {W : World} {A : Option Addr} {c : Nat} {l : List α} (h : RdT e W (.slice A l.length c) l) : l.length ≤ c := by
  obtain ⟨A2, c2, e1, _, _, hc, _⟩ := h
  injection e1 with _ _ e3
  omega
theorem cutA_zero (e : Enc α) (A : Option Addr) (c : Nat) : cutA e A c 0 = A := by
  unfold cutA
  split
  · rfl
  · cases A with
    | none => rfl
    | some a => simp [Addr.add]
theorem cut_end {l : List α} {z : Int} (h0 : 0 ≤ z) (h1 : z < l.length) : cutS l z (l.length : Int) = some (l.drop z.toNat) := by
  unfold cutS
  rw [if_pos (by omega)]
  congr 1
  rw [List.take_of_length_le]
  rw [List.length_drop]
  omega
/-- The front of a slice, whatever its cells hold. -/
theorem y_front {t el : TypeId} {x : Operand} {hi : Option Operand} {A : Option Addr} {n c : Nat} {z : Int} (e : Enc α) (h0 : 0 ≤ z) (h1 : z ≤ n) (h2 : n ≤ c)
    (hop : o.op = .slice t x none hi none := by rfl) (hv : ev rs x = .slice A n c := by kernel_rfl) (hhi : hi_ rs n hi = some z := by kernel_rfl)
    (ht : P.underlying t = some (.slice el) := by kernel_rfl) (hs : (P.info? el).map (fun i => (i.size, i.bytes)) = some (e.sz, e.by_) := by kernel_rfl) : Yd P M w0 its o rs (.slice A z.toNat c) := by
  refine ⟨fun W S => .inl ?_⟩
  obtain ⟨ti, hi2, hsz, _⟩ := ti_of (t := t) hs
  have hlo : lo_ rs none = some 0 := rfl
  have := run_bounds (P := P) (W := W) (b := true) hlo hhi (Int.le_refl 0) h0 h1 h2
  simp only [Option.map_none] at this
  have hc := cutA_zero e A c
  unfold cutA at hc
  simp only [execOp, hop, hv, Instr.sliceAt, Option.map_none]
  unfold Instr.slice
  simp only [Sem.run_bind, run_underlying ht, Result.andThen_ok, this, run_size hi2, hsz, Sem.run_pure]
  rw [show (0 : Int).toNat = 0 from rfl, Nat.sub_zero, Nat.sub_zero, hc]
end Go.Proofs.XC
