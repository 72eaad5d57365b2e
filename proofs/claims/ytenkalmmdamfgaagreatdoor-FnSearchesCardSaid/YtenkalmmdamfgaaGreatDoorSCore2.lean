/- Rules by which a function of the given program is walked symbolically: no claim by itself. By AI agents; no person has read it. -/
import Derived.Test.YtenkalmmdamfgaaGreatDoorSCore
import Derived.Sort.OwnSorted
set_option linter.unusedVariables false
set_option linter.unusedSimpArgs false
set_option maxRecDepth 100000
set_option maxHeartbeats 40000000
namespace Go.Proofs.XC
open Go Go.RowKit
variable {P : Program} {f : FuncId} {fn : Func} {R : Ending → World → Prop} {M : Nat → Prop} {w0 W W2 : World} {its its0 its' : List Hold} {k : List Item} {rs : List Value} {ops : List Oper} {i kk fuel : Nat} {o : Oper} {listed : Array Bool} {α β : Type} {e : Enc α} {e' : Enc β}
variable {K : List Hold → List Value → Prop}
/-! ### The end of a row is cleared: its front stays -/
end Go.Proofs.XC
namespace Go.Proofs.XC
open Go Go.RowKit
variable {P : Program} {f : FuncId} {fn : Func} {R : Ending → World → Prop} {M : Nat → Prop} {w0 W W2 : World} {its its0 its' : List Hold} {k : List Item} {rs : List Value} {ops : List Oper} {i kk fuel : Nat} {o : Oper} {listed : Array Bool} {α β : Type} {e : Enc α} {e' : Enc β}
variable {K : List Hold → List Value → Prop}
/-! ### append, by itself -/
/-! ### append to an inner row: the row of rows then holds the new slice in that place (once it is stored there) -/
end Go.Proofs.XC
namespace Go.Proofs.XC
open Go Go.RowKit
variable {P : Program} {f : FuncId} {fn : Func} {R : Ending → World → Prop} {M : Nat → Prop} {w0 W W2 : World} {its its0 its' : List Hold} {k : List Item} {rs : List Value} {ops : List Oper} {i kk fuel : Nat} {o : Oper} {listed : Array Bool} {α β : Type} {e : Enc α} {e' : Enc β}
variable {K : List Hold → List Value → Prop}
/-! ### Parts of rows of the call's own: cut at either end, clipped -/
/-! #### append -/
/-! #### a result -/
end Go.Proofs.XC
namespace Go.Proofs.XC
open Go Go.RowKit
variable {P : Program} {f : FuncId} {fn : Func} {R : Ending → World → Prop} {M : Nat → Prop} {w0 : World} {its its0 : List Hold} {k k0 k' : List Item} {rs : List Value} {ops : List Oper} {i fuel : Nat} {o : Oper} {listed : Array Bool} {α : Type} {e : Enc α}
variable {K : List Hold → List Value → Prop} {kk : Nat}
/-! ### Parts of rows that came in, and are written -/
/-! ### A slice is clipped -/
/-! ### Cells are copied into a row -/
end Go.Proofs.XC
namespace Go.Proofs.XC
open Go Go.RowKit
variable {P : Program} {f : FuncId} {fn : Func} {R : Ending → World → Prop} {M : Nat → Prop} {w0 : World} {its its0 : List Hold} {k k0 k' : List Item} {rs : List Value} {ops : List Oper} {i kk fuel : Nat} {o : Oper} {listed : Array Bool} {α : Type} {e : Enc α}
/-! ### What a variable holds, told in other words -/
end Go.Proofs.XC
namespace Go.Proofs.XC
open Go Go.RowKit
variable {P : Program} {f : FuncId} {fn : Func} {R : Ending → World → Prop} {M : Nat → Prop} {w0 : World} {its its0 : List Hold} {k k0 k' : List Item} {rs : List Value} {ops : List Oper} {i kk fuel : Nat} {o : Oper} {listed : Array Bool} {α : Type} {e : Enc α}
variable {K : List Hold → List Value → Prop}
/-! ### A variable behind a pointer that came in, and that is written -/
abbrev RetQ (g T : Nat) (cs : List Value) (w : World) (v : Value) : Ending → World → Prop := fun en W' => en = .returned v ∧ W'.heap[g]? = some (.cells cs.toArray T (0, 0)) ∧ w.grownBy W' (some g)
abbrev RetQR (e : Enc α) (t : TypeId) (g T : Nat) (cs : List Value) (w : World) (l : List α) (res : Value → Value) : Ending → World → Prop := fun en W' => ∃ A c, en = .returned (res (.slice A l.length c)) ∧ W'.ownsRow w.heap.size t e.sz (.slice A l.length c) l.length (e.flat l) ∧ (∀ k, (Value.slice A l.length c).ownBlock = some k → k ≠ g) ∧ W'.heap[g]? = some (.cells cs.toArray T (0, 0)) ∧ w.grownBy W' (some g)
theorem callsQ {c : Code} {args : List Value} {g T : Nat} {cs : List Value} (h0 : w0.heap[g]? = some (.cells cs.toArray T (0, 0))) (hf : P.funcs[f]? = some fn) (hb : fn.body = some c)
    (h : GS P f R (fun k => k = g) w0 [box g T cs] [.code c] (args ++ List.replicate (fn.ntmps - args.length) undef)) : Calls P f args.toArray w0 R := by
  have S : St (fun k => k = g) w0 w0 [box g T cs] := by
    refine ⟨rfl, rfl, rfl, Nat.le_refl _, fun _ _ _ => rfl, fun it hi => ?_, by simp⟩
    rw [List.mem_singleton] at hi
    subst hi
    exact ⟨box_good _ _ _, h0, fun k hk => ⟨.inr hk, by rw [show k = g from hk]; exact (Array.getElem?_eq_some_iff.1 h0).1⟩⟩
  exact G.calls hf hb (by simpa using h.out w0 S)
theorem St.retQ {W : World} {g T : Nat} {cs : List Value} {v : Value} (S : St (fun k => k = g) w0 W its) (h : nh its 0 = some (box g T cs) := by rfl) : RetQ g T cs w0 v (.returned v) W :=
  ⟨rfl, S.bx 0 h, S.os, S.tape, S.output, S.size, fun k hk hne => S.keep k hk fun e => hne (by rw [e])⟩
theorem St.retQR {W : World} {t g T : Nat} {A : Option Addr} {c : Nat} {l : List α} {cs : List Value} {res : Value → Value} (S : St (fun k => k = g) w0 W its) (j : Nat) (hj0 : j ≠ 0) (hj : nh its j = some (rowT e w0.heap.size t (.slice A l.length c) l) := by rfl) (h : nh its 0 = some (box g T cs) := by rfl) : RetQR e t g T cs w0 l res (.returned (res (.slice A l.length c))) W := by
  refine ⟨A, c, rfl, S.row j hj, ?_, S.bx 0 h, S.os, S.tape, S.output, S.size, fun k hk hne => S.keep k hk fun e => hne (by rw [e])⟩
  rw [nh_eq] at hj h
  exact fun k hk hg => S.two hj0 hj h k hk hg
/-- A slice that came in, apart from what is written. -/
theorem s_argN {A : Option Addr} {c : Nat} {l : List α} (h : RdT e w0 (.slice A l.length c) l) (hM : 0 < l.length → ∀ k, (Value.slice A l.length c).ownBlock = some k → ¬ M k) : Src M w0 its e A c l := by
  refine ⟨fun W S => ?_⟩
  obtain ⟨A2, c2, e1, h2, h3, h3', h4⟩ := h
  refine ⟨A2, c2, e1, h2, h3, h3', fun hn => ?_⟩
  obtain ⟨b, off, e2, hb, hc⟩ := h4 hn
  injection e1 with e1 _ e3
  subst e1
  subst e2
  have hk : W.heap[b]? = w0.heap[b]? := S.keep b hb (hM hn b rfl)
  refine ⟨b, off, rfl, Nat.lt_of_lt_of_le hb S.size, fun j u hj => ?_⟩
  rw [← hc j u hj]
  unfold World.cell?
  simp only [hk]
theorem ap_arg {W : World} {g T : Nat} {cs : List Value} {A : Option Addr} {c : Nat} {l : List α} (h : RdT e w0 (.slice A l.length c) l) (S : St no w0 W its) (j : Nat) (hj : nh its j = some (box g T cs) := by rfl) : 0 < l.length → ∀ k, (Value.slice A l.length c).ownBlock = some k → ¬ k = g := by
  intro hn k hk hg
  obtain ⟨A2, c2, e1, _, _, _, h4⟩ := h
  obtain ⟨b, off, e2, hb, _⟩ := h4 hn
  injection e1 with e1 _ _
  subst e1
  subst e2
  have hk' : b = k := Option.some.inj hk
  rw [nh_eq] at hj
  have := (S.own hj g rfl).1
  rcases this with h1 | h1
  · omega
  · exact h1
theorem ap_row {W : World} {B t g T : Nat} {cs : List Value} {A : Option Addr} {c : Nat} {l : List α} (S : St M w0 W its) (jr j : Nat) (hne : jr ≠ j) (hr : nh its jr = some (rowT e B t (.slice A l.length c) l) := by rfl) (hj : nh its j = some (box g T cs) := by rfl) : 0 < l.length → ∀ k, (Value.slice A l.length c).ownBlock = some k → ¬ k = g := by
  rw [nh_eq] at hr hj
  exact fun _ k hk hg => S.two hne hr hj k hk hg
/-- A call by which the variable behind the pointer is written. -/
theorem e_cq {c : Call} {d : Option Tmp} {f2 : FuncId} {gfn : Func} {g T : Nat} {cs cs' : List Value} {v : Value} (j : Nat) (args : List Value) (hgf : P.funcs[f2]? = some gfn)
    (hc : ∀ W, St M w0 W its → Calls P f2 args.toArray W (RetQ g T cs' W v))
    (h : K (sh its j (box g T cs')) (pt rs d v))
    (hj : nh its j = some (box g T cs) := by rfl)
    (hop : o.op = .call c := by rfl) (hd : o.dst = d := by rfl) (hcal : c.callee = .value (.func f2) := by rfl)
    (hb : gfn.body.isNone = false := by rfl) (hn : (gfn.name == "runtime.NumGoroutine") = false := by kernel_rfl) (ha : c.args.toList.map (ev rs) = args := by kernel_rfl) : Ex P M w0 its o rs K := by
  refine .enter (g := f2) (args := args) fun W S => ⟨run_call (fst := #[]) (caps := #[]) hop hcal (x := .func f2) rfl hgf hb hn (by simpa using ha) W, (hc W S).mono ?_⟩
  rintro en W' ⟨rfl, hbx, hgr⟩
  rw [nh_eq] at hj
  refine ⟨v, sh its j (box g T cs'), rfl, ?_, by rw [hd]; exact h⟩
  rw [sh_eq]
  exact S.upd hj hgr.os hgr.tape hgr.output hgr.size (fun k hk hne => hgr.block k hk fun e1 => hne (Option.some.inj e1)) (box_good _ _ _) hbx fun k hk => ⟨.inl hk, by rw [show k = g from hk]; exact (Array.getElem?_eq_some_iff.1 hbx).1⟩
theorem e_cqR {c : Call} {d : Option Tmp} {f2 : FuncId} {gfn : Func} {g T : Nat} {t : TypeId} {cs cs' : List Value} {l : List α} (j : Nat) (args : List Value) (res : Value → Value) (hgf : P.funcs[f2]? = some gfn)
    (hc : ∀ W, St M w0 W its → Calls P f2 args.toArray W (RetQR e t g T cs' W l res))
    (h : ∀ A cp, K (sh its j (box g T cs') ++ [rowT e w0.heap.size t (.slice A l.length cp) l]) (pt rs d (res (.slice A l.length cp))))
    (hj : nh its j = some (box g T cs) := by rfl)
    (hop : o.op = .call c := by rfl) (hd : o.dst = d := by rfl) (hcal : c.callee = .value (.func f2) := by rfl)
    (hb : gfn.body.isNone = false := by rfl) (hn : (gfn.name == "runtime.NumGoroutine") = false := by kernel_rfl) (ha : c.args.toList.map (ev rs) = args := by kernel_rfl) : Ex P M w0 its o rs K := by
  refine .enter (g := f2) (args := args) fun W S => ⟨run_call (fst := #[]) (caps := #[]) hop hcal (x := .func f2) rfl hgf hb hn (by simpa using ha) W, (hc W S).mono ?_⟩
  rintro en W' ⟨A, cp, rfl, hown, hne, hbx, hgr⟩
  rw [nh_eq] at hj
  refine ⟨_, sh its j (box g T cs') ++ [rowT e w0.heap.size t (.slice A l.length cp) l], rfl, ?_, by rw [hd]; exact h A cp⟩
  rw [sh_eq]
  have hlt : g < W'.heap.size := (Array.getElem?_eq_some_iff.1 hbx).1
  have S1 : St M w0 W' (its.set j (box g T cs')) := S.upd hj hgr.os hgr.tape hgr.output hgr.size (fun k hk hne => hgr.block k hk fun e1 => hne (Option.some.inj e1)) (box_good _ _ _) hbx fun k hk => ⟨.inl hk, by rw [show k = g from hk]; exact hlt⟩
  have hws : w0.heap.size ≤ W.heap.size := S.size
  refine ⟨S1.os, S1.tape, S1.output, S1.size, S1.keep, fun it hi => ?_, ?_⟩
  · rcases List.mem_append.1 hi with hi | hi
    · exact S1.all it hi
    · rw [List.mem_singleton] at hi
      subst hi
      refine ⟨rowT_good _ _ _ _, own_weaken' hown hws, fun k hk => ?_⟩
      have hk' : (Value.slice A l.length cp).ownBlock = some k := hk
      have := hown.lt k hk'
      exact ⟨.inl (by omega), this.2⟩
  · refine List.pairwise_append.2 ⟨S1.apart, by simp, fun x hx y hy k h1 h2 => ?_⟩
    rw [List.mem_singleton] at hy
    subst hy
    have hk' : (Value.slice A l.length cp).ownBlock = some k := h2
    have hW := (hown.lt k hk').1
    obtain ⟨q, hq⟩ := List.mem_iff_getElem?.1 hx
    by_cases hqj : j = q
    · subst hqj
      have hjl : j < its.length := (List.getElem?_eq_some_iff.1 hj).1
      rw [List.getElem?_set_self hjl] at hq
      obtain rfl := Option.some.inj hq
      exact hne k hk' h1
    · rw [List.getElem?_set_ne hqj] at hq
      have := (S.own hq k h1).2
      omega
end Go.Proofs.XC
namespace Go.Proofs.XC
open Go Go.RowKit
variable {P : Program} {f : FuncId} {fn : Func} {R : Ending → World → Prop} {M : Nat → Prop} {w0 : World} {its its0 : List Hold} {k k0 k' : List Item} {rs : List Value} {ops : List Oper} {i kk fuel : Nat} {o : Oper} {listed : Array Bool} {α : Type} {e : Enc α}
/-- Ways meet ahead of what is next, or return. -/
theorem joinTE {σ ρ X : Type} {e : Option (ρ ⊕ σ)} {A : ρ → Prop} {K' : σ → Prop} {x0 : Item} (h : H e (Kk A K')) (pr : X → σ) (It : X → List Hold) (Rs : X → (Nat → Value) → List Value)
    (first : H e (Kk A K') → (∀ y its' rs', K' (pr y) → its'.take (It y).length = It y → rs' = Rs y (gt rs') → GS P f R M w0 its' k' rs') → GS P f R M w0 its (x0 :: k') rs)
    (rest : ∀ x u, K' (pr x) → GS P f R M w0 (It x) k' (Rs x u)) : GS P f R M w0 its (x0 :: k') rs :=
  first h fun y its' rs' hy e1 e2 => keep _ e1 (by rw [e2]; exact rest y _ hy)
end Go.Proofs.XC
namespace Go.Proofs.XC
open Go Go.RowKit
variable {P : Program} {f : FuncId} {fn : Func} {R : Ending → World → Prop} {M : Nat → Prop} {w0 W : World} {its : List Hold} {k : List Item} {rs : List Value} {ops : List Oper} {i kk fuel : Nat} {o : Oper} {listed : Array Bool} {α β : Type} {e : Enc α} {e' : Enc β}
/-! ### Two new rows as results -/
/-- Three operations that may come in any order. -/
theorem a_three {its0 : List Hold} (i j l : Nat) {oi oj ol : Oper} (hi : nth ops i = some oi) (hj : nth ops j = some oj) (hl : nth ops l = some ol)
    (h1 : Ex P M w0 its oi rs (fun its' rs' => ((listed.setIfInBounds i true).getD kk false = true ∨ its'.take (its0.length) = its0) ∧ AS P f R M w0 its0 kk its' k ops fuel (listed.setIfInBounds i true) rs'))
    (h2 : Ex P M w0 its oj rs (fun its' rs' => ((listed.setIfInBounds j true).getD kk false = true ∨ its'.take (its0.length) = its0) ∧ AS P f R M w0 its0 kk its' k ops fuel (listed.setIfInBounds j true) rs'))
    (h3 : Ex P M w0 its ol rs (fun its' rs' => ((listed.setIfInBounds l true).getD kk false = true ∨ its'.take (its0.length) = its0) ∧ AS P f R M w0 its0 kk its' k ops fuel (listed.setIfInBounds l true) rs'))
    (g1 : gd ops rs oi = some true := by kernel_rfl) (g2 : gd ops rs oj = some true := by kernel_rfl) (g3 : gd ops rs ol = some true := by kernel_rfl) (hr : Region.ready .any ops.toArray listed = [i, j, l] := by kernel_rfl) : AS P f R M w0 its0 kk its k ops (fuel + 1) listed rs := by
  refine a_all [i, j, l] ?_ rfl hr
  intro x hx
  simp only [List.mem_cons, List.not_mem_nil, or_false] at hx
  rcases hx with rfl | rfl | rfl
  · exact ⟨oi, hi, g1, h1⟩
  · exact ⟨oj, hj, g2, h2⟩
  · exact ⟨ol, hl, g3, h3⟩
end Go.Proofs.XC
