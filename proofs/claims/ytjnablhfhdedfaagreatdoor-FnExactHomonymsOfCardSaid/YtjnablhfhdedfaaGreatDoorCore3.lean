/- Further rules by which a function of the given program is walked symbolically: no claim by itself. By AI agents; no person has read it. -/
import Derived.Test.YtjnablhfhdedfaaGreatDoorC1
import Derived.Test.YtjnablhfhdedfaaGreatDoorX2
import Derived.Test.YtjnablhfhdedfaaGreatDoorShelf2
import Derived.Lib.OwnBridge
import Derived.Sort.OwnSorted
set_option linter.unusedVariables false
set_option linter.unusedSimpArgs false
set_option maxRecDepth 100000
set_option maxHeartbeats 40000000
namespace Go.Proofs.XC
open Go Go.RowKit
variable {P : Program} {f : FuncId} {fn : Func} {R : Ending → World → Prop} {M : Nat → Prop} {w0 W W2 : World} {its its0 its' : List Hold} {k : List Item} {rs : List Value} {ops : List Oper} {i kk fuel : Nat} {o : Oper} {listed : Array Bool} {α β : Type} {e : Enc α} {e' : Enc β}
/-! ### Functions that are handed on beside a row that is written -/
theorem St.grw {A : Option Addr} {n c : Nat} (S : St (fun k => (Value.slice A n c).ownBlock = some k) w0 W its) : w0.grownBy W (Value.slice A n c).ownBlock :=
  ⟨S.os, S.tape, S.output, S.size, fun k hk hne => S.keep k hk fun h => hne h.symm⟩
theorem grw_up {b : Option Nat} {w : World} (h : w.grownBy W b) (hu : Up W W2) : w.grownBy W2 b :=
  ⟨hu.os.trans h.os, hu.tape.trans h.tape, hu.output.trans h.output, Nat.le_trans h.size hu.size, fun k hk hne => (hu.block k (Nat.lt_of_lt_of_le hk h.size)).trans (h.block k hk hne)⟩
theorem grw_tr {b : Option Nat} {w : World} (h : w.grownBy W b) (h2 : W.grownBy W2 b) : w.grownBy W2 b :=
  ⟨h2.os.trans h.os, h2.tape.trans h.tape, h2.output.trans h.output, Nat.le_trans h.size h2.size, fun k hk hne => (h2.block k (Nat.lt_of_lt_of_le hk h.size) hne).trans (h.block k hk hne)⟩
theorem up_far {t : Nat} {A : Option Addr} {n c n2 c2 : Nat} {l : List α} (S : St no w0 W its) (j : Nat) (hj : nh its j = some (rowT e w0.heap.size t (.slice A n c) l)) (hg : W.grownBy W2 (Value.slice A n2 c2).ownBlock) : Up w0 W2 := by
  rw [nh_eq] at hj
  refine ⟨hg.os.trans S.os, hg.tape.trans S.tape, hg.output.trans S.output, Nat.le_trans S.size hg.size, fun k hk => ?_⟩
  have hne : some k ≠ (Value.slice A n2 c2).ownBlock := by
    intro h
    have hk' : (Value.slice A n c).ownBlock = some k := by rw [own_any (n' := n2) (c' := c2)]; exact h.symm
    rcases (S.own hj k hk').1 with h1 | h1
    · omega
    · exact h1
  exact (hg.block k (Nat.lt_of_lt_of_le hk S.size) hne).trans (S.keep k hk fun h => h)
theorem bx_far {t B : Nat} {A : Option Addr} {n c n2 c2 : Nat} {l : List α} {g : Nat} {T : TypeId} {cs : List Value} (S : St M w0 W its) (i j : Nat) (hij : i ≠ j) (hi : nh its i = some (box g T cs)) (hj : nh its j = some (rowT e B t (.slice A n c) l)) (hg : W.grownBy W2 (Value.slice A n2 c2).ownBlock) : W2.heap[g]? = some (.cells cs.toArray T (0, 0)) := by
  rw [nh_eq] at hi hj
  have hF : W.heap[g]? = some (.cells cs.toArray T (0, 0)) := S.get hi
  have hlt := (S.own hi g rfl).2
  have hne : some g ≠ (Value.slice A n2 c2).ownBlock := by
    intro h
    have hk' : (Value.slice A n c).ownBlock = some g := by rw [own_any (n' := n2) (c' := c2)]; exact h.symm
    exact S.two hij hi hj g rfl hk'
  exact (hg.block g hlt hne).trans hF
end Go.Proofs.XC
namespace Go.Proofs.XC
open Go Go.RowKit
section
variable {P : Program} {ops : Array Oper} {Q : Exit → Act → World → Prop}
/-! ### Operations that only reckon may come at any time -/
theorem AB.firstP {S2 : Array Bool → World → Prop} {i : Nat} {oi : Oper} {v : Value} (hi : ops[i]? = some oi) (hsel : ∀ (j : Nat) (o : Oper) cs b, ops[j]? = some o → o.op ≠ .select cs b)
    (hQ : ∀ c a w, Q (.panic c) (a.put oi.dst v) w → Q (.panic c) a w) (hSu2 : ∀ l w w', S2 l w → Up w w' → S2 l w') (hS2e : ∀ l, S2 l = S2 (l.setIfInBounds i true)) :
    ∀ (fuel : Nat) (listed : Array Bool) (a : Act) (w : World),
      (∀ j oj, ops[j]? = some oj → j ≠ i → listed.getD j true = false → (∀ e ∈ oj.after, Region.binds .any e = true → e.on ≠ i) → oi.apart ops oj = true) →
      i ∈ Region.ready .any ops listed → Qt P ops (fun _ => True) oi v a →
      AB P ops Q S2 fuel (listed.setIfInBounds i true) (a.put oi.dst v) w → S2 (listed.setIfInBounds i true) w → AB P ops Q S2 (fuel + 1) listed a w := by
  intro fuel
  induction fuel with
  | zero =>
    intro listed a w _ hr hy H H2
    refine ⟨fun h => (by rw [h] at hr; cases hr), fun j hj w2 h2 => ?_⟩
    by_cases hji : j = i
    · subst hji
      exact hy.wpOp hi trivial fun w' hu => ⟨hSu2 _ _ _ (hSu2 _ _ _ H2 h2) hu, H.up (h2.trans hu)⟩
    · have := ready_mono hj hji
      rw [H.1] at this
      cases this
  | succ fuel ih =>
    intro listed a w hfree hr hy H H2
    refine ⟨fun h => (by rw [h] at hr; cases hr), fun j hj w2 h2 => ?_⟩
    by_cases hji : j = i
    · subst hji
      exact hy.wpOp hi trivial fun w' hu => ⟨hSu2 _ _ _ (hSu2 _ _ _ H2 h2) hu, H.up (h2.trans hu)⟩
    · have h1 := H.2 j (ready_mono hj hji) w2 h2
      obtain ⟨hjun, oj, hoj, hall⟩ := mem_ready.1 hj
      have hnot : ∀ e ∈ oj.after, Region.binds .any e = true → e.on ≠ i := fun e he hb heq => by
        have h1 := hall e he hb
        have h0 := (mem_ready.1 hr).1
        rw [heq] at h1
        rcases Nat.lt_or_ge i listed.size with h' | h'
        · simp [h'] at h0 h1; rw [h0] at h1; cases h1
        · simp [Array.getElem?_eq_none h'] at h1
      have h2' := wpOp_apart hoj (hfree j oj hoj hji hjun hnot) (fun cs b => hsel i oi cs b hi) (fun cs b => hsel j oj cs b hoj) hQ hy h1
      have hfree' : ∀ k ok, ops[k]? = some ok → k ≠ i → (listed.setIfInBounds j true).getD k true = false →
          (∀ e ∈ ok.after, Region.binds .any e = true → e.on ≠ i) → oi.apart ops ok = true := fun k ok hk hki hun hno => by
        refine hfree k ok hk hki ?_ hno
        by_cases hjk : j = k
        · subst hjk; exact hjun
        · rw [getD_set_ne true hjk] at hun; exact hun
      have hcomm : (listed.setIfInBounds j true).setIfInBounds i true = (listed.setIfInBounds i true).setIfInBounds j true := Array.setIfInBounds_comm _ _ hji
      refine wpOp_mono (fun a' w' h3 => ⟨?_, ih (listed.setIfInBounds j true) a' w' hfree' (ready_mono hr (Ne.symm hji)) h3.1 ?_ ?_⟩) h2'
      · rw [hS2e, hcomm]; exact h3.2.1
      · rw [hcomm]; exact h3.2.2
      · rw [hcomm]; exact h3.2.1
end
variable {P : Program} {f : FuncId} {fn : Func} {R : Ending → World → Prop} {M : Nat → Prop} {w0 : World} {its its0 : List Hold} {k : List Item} {rs : List Value} {ops : List Oper} {i kk fuel : Nat} {o : Oper} {listed : Array Bool}
def tkP (ops : List Oper) (kk : Nat) (listed : Array Bool) (i : Nat) : Bool := (Region.ready .any ops.toArray listed).contains i && Region.free .any ops.toArray listed i && Region.noSelect ops.toArray && !(Nat.beq i kk)
theorem a_firstP {v : Value} (hi : nth ops i = some o) (ht : tkP ops kk listed i = true) (hq : ∀ a, a = act rs → Qt P ops.toArray (fun _ => True) o v a) (hsub : listed.getD kk false = false → ∀ W, St M w0 W its → St M w0 W its0)
    (h : AS P f R M w0 its0 kk its k ops fuel (listed.setIfInBounds i true) (pt rs o.dst v)) : AS P f R M w0 its0 kk its k ops (fuel + 1) listed rs := by
  refine ⟨fun W S => ?_⟩
  rw [nth_eq] at hi
  simp only [tkP, Bool.and_eq_true, Bool.not_eq_true'] at ht
  obtain ⟨⟨⟨h1, h2⟩, h3⟩, h4⟩ := ht
  have hik : i ≠ kk := Nat.ne_of_beq_eq_false h4
  refine AB.firstP (S2 := SK M w0 its0 kk) (i := i) (oi := o) (v := v) (by simpa using hi) (Region.noSelect_spec h3) (fun c a w hp => hp) SK.up ?_ fuel listed (act rs) W (Region.free_spec (by simpa using hi) h2) (by simpa using h1) (hq _ rfl) ?_ ?_
  · intro l
    funext W'
    apply propext
    have e : (l.setIfInBounds i true).getD kk false = l.getD kk false := getD_set_ne false hik
    unfold SK
    rw [e]
  · rw [act_put]
    exact h.out W S
  · intro h0
    have e : (listed.setIfInBounds i true).getD kk false = listed.getD kk false := getD_set_ne false hik
    rw [e] at h0
    exact hsub h0 W S
def apOKP (P : Program) (ops : List Oper) (kk : Nat) : Nat → Nat → Array Bool → List Value → Bool
  | 0, _, _, _ => true
  | n + 1, i, listed, rs => match nth ops i with
    | some o => tkP ops kk listed i && (match stepR P ops rs o with
      | some rs' => apOKP P ops kk n (i + 1) (listed.setIfInBounds i true) rs'
      | none => false)
    | none => false
theorem a_pP (m : Nat) : ∀ (i : Nat) (fuel : Nat) (listed : Array Bool) (rs : List Value), (listed.getD kk false = false → its.take its0.length = its0) → AS P f R M w0 its0 kk its k ops fuel (marks m i listed) (pureR P ops m i rs) → apOKP P ops kk m i listed rs = true → AS P f R M w0 its0 kk its k ops (fuel + m) listed rs := by
  induction m with
  | zero => intro i fuel listed rs _ h _; exact h
  | succ m ih =>
    intro i fuel listed rs hn h hok
    simp only [apOKP] at hok
    simp only [pureR, marks] at h
    split at hok
    · rename_i o ho
      rw [ho] at h
      simp only [Bool.and_eq_true] at hok
      obtain ⟨ht, hok⟩ := hok
      simp only at h
      have hik : i ≠ kk := by
        simp only [tkP, Bool.and_eq_true, Bool.not_eq_true'] at ht
        exact Nat.ne_of_beq_eq_false ht.2
      have hn' : (listed.setIfInBounds i true).getD kk false = false → its.take its0.length = its0 := by
        rw [getD_set_ne false hik]
        exact hn
      have hsub : listed.getD kk false = false → ∀ W, St M w0 W its → St M w0 W its0 := fun h0 W S => by rw [← hn h0]; exact S.take _
      split at hok
      · rename_i rs' hs
        rw [hs] at h
        simp only at h
        have h2 := ih (i + 1) fuel (listed.setIfInBounds i true) rs' hn' h hok
        unfold stepR at hs
        split at hs
        · rename_i hgd
          split at hs
          · rename_i v hv
            obtain rfl := Option.some.inj hs
            refine a_firstP ho ht (fun a ha => ?_) hsub h2
            subst ha
            exact .inl ⟨gd_ok hgd, fun w _ => .inl (by rw [act_eval']; exact pureOp_run hv w)⟩
          · cases hs
        · rename_i hgd
          obtain rfl := Option.some.inj hs
          refine a_firstP (v := undef) ho ht (fun a ha => ?_) hsub h2
          subst ha
          exact .inr ⟨gd_wanted hgd, rfl⟩
        · cases hs
      · cases hok
    · cases hok
/-- As ap, whatever waits for these operations. -/
theorem apx (i m : Nat) (h : AS P f R M w0 its0 kk its k ops fuel (marks m i listed) (pureR P ops m i rs)) (hn : its.take its0.length = its0 := by rfl) (hok : apOKP P ops kk m i listed rs = true := by kernel_rfl) : AS P f R M w0 its0 kk its k ops (fuel + m) listed rs := a_pP m i fuel listed rs (fun _ => hn) h hok
theorem apy (i m : Nat) (h : AS P f R M w0 its0 kk its k ops fuel (marks m i listed) (pureR P ops m i rs)) (hk : listed.getD kk false = true := by kernel_rfl) (hok : apOKP P ops kk m i listed rs = true := by kernel_rfl) : AS P f R M w0 its0 kk its k ops (fuel + m) listed rs := a_pP m i fuel listed rs (fun h0 => by rw [hk] at h0; cases h0) h hok
end Go.Proofs.XC
namespace Go.Proofs.XC
open Go Go.RowKit
variable {P : Program} {f : FuncId} {fn : Func} {R : Ending → World → Prop} {M : Nat → Prop} {w0 W W2 : World} {its its0 its' : List Hold} {k : List Item} {rs : List Value} {ops : List Oper} {i kk fuel : Nat} {o : Oper} {listed : Array Bool} {α β : Type} {e : Enc α} {e' : Enc β}
/-! ### A row of rows that is handed in, and whose rows are written -/
theorem Rd.kept {W W' : World} {size n c : Nat} {A : Option Addr} {cs : List Value} (h : Rd W size (.slice A n c) n cs) (hs : W.heap.size ≤ W'.heap.size) (hk : ∀ k, k < W.heap.size → (Value.slice A n c).ownBlock = some k → W'.heap[k]? = W.heap[k]?) : Rd W' size (.slice A n c) n cs := by
  obtain ⟨A2, c2, h1, h2, h3, h3', h4⟩ := h
  injection h1 with e1 _ e3
  subst e1
  subst e3
  refine ⟨_, _, rfl, h2, h3, h3', fun hn => ?_⟩
  obtain ⟨b, off, e, hb, hc⟩ := h4 hn
  subst e
  refine ⟨b, off, rfl, Nat.lt_of_lt_of_le hb hs, fun j u hj => ?_⟩
  rw [← hc j u hj]
  exact World.cell?_of_block (hk b hb rfl)
abbrev inM (us : List Sl) : Nat → Prop := fun k => ∃ s ∈ us, s.v.ownBlock = some k
theorem s_argI {us : List Sl} {A : Option Addr} {c : Nat} (h : RdT eSl w0 (.slice A us.length c) us) (hM : ∀ k, (Value.slice A us.length c).ownBlock = some k → ¬ M k) : Src M w0 its eSl A c us :=
  ⟨fun W S => Rd.kept h S.size fun k hk ho => S.keep k hk (hM k ho)⟩
theorem callsWI {c : Code} {args : List Value} {B t : Nat} {us : List Sl} {ls : List (List α)} (hd : Inn e B t w0 us ls) (hf : P.funcs[f]? = some fn) (hb : fn.body = some c)
    (h : GS P f R (inM us) w0 [inns e B t us ls] [.code c] (args ++ List.replicate (fn.ntmps - args.length) undef)) : Calls P f args.toArray w0 R := by
  have S : St (inM us) w0 w0 [inns e B t us ls] := by
    refine ⟨rfl, rfl, rfl, Nat.le_refl _, fun _ _ _ => rfl, fun it hi => ?_, by simp⟩
    rw [List.mem_singleton] at hi
    subst hi
    refine ⟨inns_good _ _ _ _ _, hd, fun k hk => ⟨.inr hk, ?_⟩⟩
    obtain ⟨s, hs, hk⟩ := hk
    obtain ⟨i, hi⟩ := List.mem_iff_getElem?.1 hs
    have hlt : i < ls.length := by
      have := (List.getElem?_eq_some_iff.1 hi).1
      rw [hd.len] at this
      exact this
    have hk' : (Value.slice s.A (ls[i]).length s.c).ownBlock = some k := by
      rw [own_any (n' := s.n) (c' := s.c)]
      exact hk
    exact ((hd.row i s _ hi (List.getElem?_eq_getElem hlt)).2.lt k hk').2
  exact G.calls hf hb (by simpa using h.out w0 S)
theorem Inn.set {B t : Nat} {W W' : World} {us : List Sl} {ls : List (List α)} {z : Int} {s : Sl} {l l' : List α} (h : Inn e B t W us ls) (hs : getI us z = some s) (hl : getI ls z = some l) (hlen : l'.length = l.length)
    (hr : W'.ownsRow B t e.sz (.slice s.A l.length s.c) l.length (e.flat l')) (hk : ∀ k, k < W.heap.size → s.v.ownBlock ≠ some k → W'.heap[k]? = W.heap[k]?) : Inn e B t W' us (ls.set z.toNat l') := by
  have hz := (getI_some hs).2.2
  have hlz := (getI_some hl).2.2
  refine ⟨by rw [List.length_set]; exact h.len, fun i q m hq hm => ?_, h.apart⟩
  by_cases hi : i = z.toNat
  · subst hi
    rw [hz] at hq
    obtain rfl := Option.some.inj hq
    rw [List.getElem?_set_self (List.getElem?_eq_some_iff.1 hlz).1] at hm
    obtain rfl := Option.some.inj hm
    obtain ⟨h1, _⟩ := h.row _ s l hz hlz
    exact ⟨by rw [h1, hlen], by rw [hlen]; exact hr⟩
  · rw [List.getElem?_set_ne (Ne.symm hi)] at hm
    obtain ⟨h1, h2⟩ := h.row i q m hq hm
    refine ⟨h1, row_good B t e.sz (.slice q.A m.length q.c) m.length (e.flat m) W W' (fun k hk' => hk k (h2.lt k hk').2 ?_) h2⟩
    have hq' : q.v.ownBlock = some k := by
      unfold Sl.v
      rw [own_any (n' := m.length) (c' := q.c)]
      exact hk'
    exact h.apart i z.toNat q s k hi hq hz hq'
theorem e_cwi {c : Call} {d : Option Tmp} {g : FuncId} {gfn : Func} {t B : Nat} {us : List Sl} {ls : List (List α)} {z : Int} {s : Sl} {l l' : List α} {v : Value} (j : Nat) (args : List Value) (hs : getI us z = some s) (hl : getI ls z = some l) (hgf : P.funcs[g]? = some gfn)
    (hc : ∀ W, St M w0 W its → Calls P g args.toArray W (RetW e B t s.A l.length s.c W l' v))
    {K : List Hold → List Value → Prop} (h : K (sh its j (inns e B t us (ls.set z.toNat l'))) (pt rs d v)) (hj : nh its j = some (inns e B t us ls) := by rfl)
    (hop : o.op = .call c := by rfl) (hd : o.dst = d := by rfl) (hcal : c.callee = .value (.func g) := by rfl)
    (hb : gfn.body.isNone = false := by rfl) (hn : (gfn.name == "runtime.NumGoroutine") = false := by kernel_rfl) (ha : c.args.toList.map (ev rs) = args := by kernel_rfl) : Ex P M w0 its o rs K := by
  refine .enter (g := g) (args := args) fun W S => ⟨run_call (fst := #[]) (caps := #[]) hop hcal (x := .func g) rfl hgf hb hn (by simpa using ha) W, (hc W S).mono ?_⟩
  rintro en W' ⟨rfl, hl', hown, hgr⟩
  refine ⟨_, sh its j (inns e B t us (ls.set z.toNat l')), rfl, ?_, by rw [hd]; exact h⟩
  rw [nh_eq] at hj
  rw [sh_eq]
  have hin : Inn e B t W us ls := S.get hj
  have ho : ∀ k, (Value.slice s.A l.length s.c).ownBlock = some k ↔ s.v.ownBlock = some k := fun k => by
    unfold Sl.v
    rw [own_any (n' := s.n) (c' := s.c)]
  have hin' := hin.set hs hl hl' hown fun k hk hne => hgr.block k hk fun e1 => hne ((ho k).1 e1.symm)
  refine S.upd hj hgr.os hgr.tape hgr.output hgr.size (fun k hk hne => hgr.block k hk fun e1 => hne ⟨s, List.mem_of_getElem? (getI_some hs).2.2, (ho k).1 e1.symm⟩) (inns_good _ _ _ _ _) hin' fun k hk => ⟨.inl hk, ?_⟩
  exact Nat.lt_of_lt_of_le (S.own hj k hk).2 hgr.size
theorem St.retWD {B t : Nat} {us : List Sl} {ls : List (List α)} {v : Value} (S : St (inM us) w0 W its) (h : nh its 0 = some (inns e B t us ls) := by rfl) : RetWD e B t us w0 ls v (.returned v) W :=
  ⟨rfl, S.inn 0 h, S.os, S.tape, S.output, S.size, fun k hk hn => S.keep k hk hn⟩
theorem St.apD {B B2 t ti : Nat} {A : Option Addr} {c : Nat} {us us2 : List Sl} {ls : List (List α)} (S : St M w0 W its) (j q : Nat) (hjq : j ≠ q) (hj : nh its j = some (rowT eSl B t (.slice A us2.length c) us2) := by rfl) (hq : nh its q = some (inns e B2 ti us ls) := by rfl) :
    ∀ k, (Value.slice A us2.length c).ownBlock = some k → ¬ ∃ s ∈ us, s.v.ownBlock = some k := by
  rw [nh_eq] at hj hq
  exact fun k h1 h2 => S.two hjq hj hq k h1 h2
end Go.Proofs.XC
namespace Go.Proofs.XC
open Go Go.RowKit
variable {P : Program} {f : FuncId} {fn : Func} {R : Ending → World → Prop} {M : Nat → Prop} {w0 W W2 : World} {its its0 its' : List Hold} {k : List Item} {rs : List Value} {ops : List Oper} {i kk fuel : Nat} {o : Oper} {listed : Array Bool} {α β : Type} {e : Enc α} {e' : Enc β}
variable {K : List Hold → List Value → Prop}
/-! ### A row is written, and its front is the result -/
abbrev RetC (e : Enc α) (B t : Nat) (A : Option Addr) (cp : Nat) (w : World) (l : List α) : Ending → World → Prop := fun en W' => en = .returned (.slice A l.length cp) ∧ W'.ownsRow B t e.sz (.slice A l.length cp) l.length (e.flat l) ∧ w.grownBy W' (Value.slice A l.length cp).ownBlock
theorem e_cwc {c : Call} {d : Option Tmp} {g : FuncId} {gfn : Func} {t B : Nat} {A : Option Addr} {cp : Nat} {l l' : List α} (j : Nat) (args : List Value) (hgf : P.funcs[g]? = some gfn)
    (hc : ∀ W, St M w0 W its → Calls P g args.toArray W (RetC e B t A cp W l'))
    (h : K (sh its j (rowT e B t (.slice A l'.length cp) l')) (pt rs d (.slice A l'.length cp)))
    (hj : nh its j = some (rowT e B t (.slice A l.length cp) l) := by rfl)
    (hop : o.op = .call c := by rfl) (hd : o.dst = d := by rfl) (hcal : c.callee = .value (.func g) := by rfl)
    (hb : gfn.body.isNone = false := by rfl) (hn : (gfn.name == "runtime.NumGoroutine") = false := by kernel_rfl) (ha : c.args.toList.map (ev rs) = args := by kernel_rfl) : Ex P M w0 its o rs K := by
  refine .enter (g := g) (args := args) fun W S => ⟨run_call (fst := #[]) (caps := #[]) hop hcal (x := .func g) rfl hgf hb hn (by simpa using ha) W, (hc W S).mono ?_⟩
  rintro en W' ⟨rfl, hown, hgr⟩
  rw [nh_eq] at hj
  refine ⟨_, sh its j (rowT e B t (.slice A l'.length cp) l'), rfl, ?_, by rw [hd]; exact h⟩
  rw [sh_eq]
  have ho : ∀ k, (Value.slice A l'.length cp).ownBlock = some k ↔ (Value.slice A l.length cp).ownBlock = some k := fun k => by rw [own_any (n' := l.length) (c' := cp)]
  refine S.upd hj hgr.os hgr.tape hgr.output hgr.size (fun k hk hne => hgr.block k hk fun e1 => hne ((ho k).1 e1.symm)) (rowT_good _ _ _ _) hown ?_
  intro k hk
  have hk' : (Value.slice A l'.length cp).ownBlock = some k := hk
  exact ⟨.inl ((ho k).1 hk'), (hown.lt k hk').2⟩
theorem flat_str (l : List Str) : eS.flat l = l.map encStr := by
  induction l with
  | nil => rfl
  | cons x l ih => 
    have : eS.flat (x :: l) = .string (bs x) :: eS.flat l := rfl
    rw [this, ih]
    rfl
end Go.Proofs.XC
namespace Go.Proofs.XC
open Go Go.RowKit
variable {P : Program} {f : FuncId} {fn : Func} {R : Ending → World → Prop} {M : Nat → Prop} {w0 W W2 : World} {its its0 its' : List Hold} {k : List Item} {rs : List Value} {ops : List Oper} {i kk fuel : Nat} {o : Oper} {listed : Array Bool} {α β : Type} {e : Enc α} {e' : Enc β}
variable {K : List Hold → List Value → Prop}
/-! ### The end of a row is cleared: its front stays -/
theorem e_clr {t el : TypeId} {cl : Call} {x : Operand} {d : Option Tmp} {B : Nat} {A : Option Addr} {n c m : Nat} {l : List α} {q : Nat} (j : Nat) (hq : q < l.length) (hm : m = l.length - q)
    (h : K (sh its j (argW e B el A q c (l.take q))) (pt rs d (.tuple #[])))
    (hj : nh its j = some (argW e B el A n c l) := by rfl)
    (hop : o.op = .call cl := by rfl) (hcl : cl.callee = .builtin .clear := by rfl) (ha : cl.args = #[x] := by rfl) (hat : cl.argTypes = #[t] := by rfl) (hd : o.dst = d := by rfl)
    (hx : ev rs x = .slice (cutA e A c q) m (c - q) := by kernel_rfl) (ht : P.underlying t = some (.slice el) := by kernel_rfl)
    (hz : ((P.info? el).bind (·.zero)).map (fun z => (z.cells.size, z.cells.toList.all (·.oneCell'))) = some (e.sz, true) := by kernel_rfl) : Ex P M w0 its o rs K := by
  refine .value fun W S => ?_
  obtain ⟨ti, zv, hi, hz', hzc, hzo⟩ : ∃ ti zv, P.info? el = some ti ∧ ti.zero = some zv ∧ zv.cells.size = e.sz ∧ zv.cells.toList.all (·.oneCell') = true := by
    cases hi : P.info? el with
    | none => simp [hi] at hz
    | some ti =>
      cases hzz : ti.zero with
      | none => simp [hi, hzz] at hz
      | some zv =>
        simp only [hi, hzz, Option.bind_some, Option.map_some, Option.some.injEq, Prod.mk.injEq] at hz
        exact ⟨ti, zv, rfl, hzz, hz.1, hz.2⟩
  rw [nh_eq] at hj
  obtain ⟨hln, hown⟩ := S.get hj
  subst hln
  subst hm
  rcases hown.2 with ⟨_, h2⟩ | ⟨g, cap, cur, h2, hbg, hh, hnc, hcm, hcs, htk⟩
  · omega
  injection h2 with h2 _ h3
  subst h2
  subst h3
  have hcz : cur.toList.length = cur.size := Array.length_toList
  have hcl : l.length * e.sz ≤ cur.size := by
    rw [hcs]
    exact Nat.mul_le_mul_right _ hnc
  have hcut : cutA e (some ⟨g, 0, none⟩) c q = some ⟨g, q * e.sz, none⟩ := by
    unfold cutA
    rw [if_neg (by omega)]
    have hadd : (⟨g, 0, none⟩ : Addr).add (q * e.sz) = ⟨g, 0 + q * e.sz, none⟩ := by unfold Addr.add; split <;> simp_all
    rw [Option.map_some, hadd, Nat.zero_add]
  have hzl : (Builtin.zeroCells zv.cells (l.length - q)).toList.length = (l.length - q) * e.sz := by
    simp [Builtin.zeroCells, hzc]
  have hfit : q * e.sz + (l.length - q) * e.sz ≤ cur.size := by
    rw [← Nat.add_mul, show q + (l.length - q) = l.length by omega]
    exact hcl
  have hone : ∀ v ∈ (Builtin.zeroCells zv.cells (l.length - q)).toList, v.oneCell' = true := by
    intro v hv
    simp only [Builtin.zeroCells, Array.toList_map, Array.toList_range, List.mem_map, List.mem_range] at hv
    obtain ⟨a, ha, rfl⟩ := hv
    have hp := e.pos
    have hlt : a % zv.cells.size < zv.cells.size := Nat.mod_lt _ (by omega)
    rw [getElem!_pos zv.cells _ hlt]
    exact (List.all_eq_true.1 hzo) _ (by simp)
  have hrun := run_storeCells_at P g (q * e.sz) el (Builtin.zeroCells zv.cells (l.length - q)).toList 0 cur W hh (by rw [hzl]; omega) hone
  have he : cl = { callee := .builtin .clear, args := #[x], argTypes := #[t] } := by
    cases cl
    simp_all
  have hzr : ∀ w, (zeroValue el).run P w = .ok zv w := fun w => by simp [zeroValue, typeInfo, hi, hz']
  obtain ⟨m, hm⟩ : ∃ m, l.length - q = m + 1 := ⟨l.length - q - 1, by omega⟩
  have hlq : (l.take q).length = q := by rw [List.length_take]; omega
  refine ⟨.tuple #[], W.setRow g (cur.toList.take (q * e.sz + 0) ++ (Builtin.zeroCells zv.cells (l.length - q)).toList ++ cur.toList.drop (q * e.sz + 0 + (Builtin.zeroCells zv.cells (l.length - q)).toList.length)).toArray, _, ?_, ?_, by rw [hd]; exact h⟩
  · subst he
    rw [hcut] at hx
    simp only [execOp, hop, resolve, invoke, builtin, Sem.run_bind, Sem.run_pure, Result.andThen_ok, List.map_toArray, List.map_cons, List.map_nil, hx]
    rw [hm] at hrun ⊢
    simp [Builtin.clear_, run_underlying ht, hzr, hrun]
  · rw [sh_eq]
    refine S.upd hj rfl rfl rfl (by simp) (fun k hk hne => setRow_other W g k _ (fun e1 => hne ?_)) (argW_good _ _ _ _ _ _ _) ⟨hlq, ?_⟩ ?_
    · subst e1; rfl
    · refine ⟨by rw [e.flat_length, hlq], .inr ⟨g, c, _, rfl, hbg, setRow_heap W g cur _ el (0, 0) hh, by omega, hcm, ?_, ?_⟩⟩
      · rw [List.size_toArray, List.length_append, List.length_append, List.length_take, List.length_drop, hzl, hcz, Nat.min_eq_left (by omega), hcs]
        rw [hcs] at hfit
        omega
      · rw [List.toList_toArray, List.append_assoc, List.take_append_of_le_length (by rw [List.length_take]; omega), Nat.add_zero, List.take_take, Nat.min_self]
        have h6 : e.flat l = e.flat (l.take q) ++ e.flat (l.drop q) := by rw [← e.flat_app, List.take_append_drop]
        have h7 : (cur.toList.take (l.length * e.sz)).take (q * e.sz) = e.flat (l.take q) := by
          rw [htk, h6, List.take_append_of_le_length (by rw [e.flat_length, hlq]; omega), List.take_of_length_le (by rw [e.flat_length, hlq]; omega)]
        rw [List.take_take, Nat.min_eq_left (Nat.mul_le_mul_right _ (by omega))] at h7
        exact h7
    · intro k hk
      have hk' : (Value.slice (some ⟨g, 0, none⟩) q c).ownBlock = some k := hk
      simp only [Value.ownBlock, Option.some.injEq] at hk'
      subst hk'
      exact ⟨.inl rfl, by simpa using (S.own hj g rfl).2⟩
theorem St.retC {W : World} {B t : Nat} {A : Option Addr} {n n2 c c2 : Nat} {l : List α} (S : St (fun k => (Value.slice A n2 c2).ownBlock = some k) w0 W its) (h : nh its 0 = some (argW e B t A n c l) := by rfl) (hn : l.length = n := by rfl) : RetC e B t A c w0 l (.returned (.slice A n c)) W := by
  subst hn
  rw [nh_eq] at h
  have hF := S.get h
  refine ⟨rfl, hF.2, S.os, S.tape, S.output, S.size, fun k hk hne => S.keep k hk fun h => hne ?_⟩
  rw [← h]
  exact own_any
theorem rd_le {W : World} {A : Option Addr} {c : Nat} {l : List α} (h : RdT e W (.slice A l.length c) l) : l.length ≤ c := by
  obtain ⟨A2, c2, e1, _, _, hc, _⟩ := h
  injection e1 with _ _ e3
  omega
theorem cutA_zero (e : Enc α) (A : Option Addr) (c : Nat) : cutA e A c 0 = A := by
  unfold cutA
  split
  · rfl
  · cases A with
    | none => rfl
    | some a => simp [Addr.add]
theorem cut_end {l : List α} {z : Int} (h0 : 0 ≤ z) (h1 : z < l.length) : cutS l z (l.length : Int) = some (l.drop z.toNat) := by
  unfold cutS
  rw [if_pos (by omega)]
  congr 1
  rw [List.take_of_length_le]
  rw [List.length_drop]
  omega
/-- The front of a slice, whatever its cells hold. -/
theorem y_front {t el : TypeId} {x : Operand} {hi : Option Operand} {A : Option Addr} {n c : Nat} {z : Int} (e : Enc α) (h0 : 0 ≤ z) (h1 : z ≤ n) (h2 : n ≤ c)
    (hop : o.op = .slice t x none hi none := by rfl) (hv : ev rs x = .slice A n c := by kernel_rfl) (hhi : hi_ rs n hi = some z := by kernel_rfl)
    (ht : P.underlying t = some (.slice el) := by kernel_rfl) (hs : (P.info? el).map (fun i => (i.size, i.bytes)) = some (e.sz, e.by_) := by kernel_rfl) : Yd P M w0 its o rs (.slice A z.toNat c) := by
  refine ⟨fun W S => .inl ?_⟩
  obtain ⟨ti, hi2, hsz, _⟩ := ti_of (t := t) hs
  have hlo : lo_ rs none = some 0 := rfl
  have := run_bounds (P := P) (W := W) (b := true) hlo hhi (Int.le_refl 0) h0 h1 h2
  simp only [Option.map_none] at this
  have hc := cutA_zero e A c
  unfold cutA at hc
  simp only [execOp, hop, hv, Instr.sliceAt, Option.map_none]
  unfold Instr.slice
  simp only [Sem.run_bind, run_underlying ht, Result.andThen_ok, this, run_size hi2, hsz, Sem.run_pure]
  rw [show (0 : Int).toNat = 0 from rfl, Nat.sub_zero, Nat.sub_zero, hc]
end Go.Proofs.XC
