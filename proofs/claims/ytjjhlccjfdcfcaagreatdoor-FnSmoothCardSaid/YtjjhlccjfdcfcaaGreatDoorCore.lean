/- Rules by which a function of the given program is walked symbolically: no claim by itself. By AI agents; no person has read it. -/
import Derived.WalkKit
import Derived.KernelRfl
import Derived.OrdersHeld
import Derived.Great.BuildSlice
import Derived.Maps.AppendAt
import Derived.Laws.OwnMore
import Derived.Laws.BytesArg
import Derived.Great.FillDense
import Derived.Laws.IdiomStrings
import Derived.Laws.Cover3
import Derived.Lib.OwnBridge
import Derived.ProofKit
import Derived.ChangeArms
import Derived.LaidMore
import Derived.OpenShut
import Derived.Stop.Joined
set_option linter.unusedVariables false
set_option linter.unusedSimpArgs false
set_option maxRecDepth 100000
set_option maxHeartbeats 40000000
namespace Go.Proofs.XC
open Go Go.RowKit

/-! ### Registers -/
def gt : List Value → Nat → Value
  | [], _ => undef
  | v :: _, 0 => v
  | _ :: t, n + 1 => gt t n
def st : List Value → Nat → Value → List Value
  | [], _, _ => []
  | _ :: t, 0, v => v :: t
  | x :: t, n + 1, v => x :: st t n v
theorem gt_eq : ∀ (l : List Value) (n : Nat), gt l n = l.toArray.getD n undef
  | [], n => by simp [gt]
  | v :: t, 0 => by simp [gt]
  | v :: t, n + 1 => by
    have h := gt_eq t n
    simp only [gt, h]
    simp
theorem st_set : ∀ (l : List Value) (n : Nat) (v : Value), st l n v = l.set n v
  | [], n, v => by simp [st]
  | x :: t, 0, v => by simp [st]
  | x :: t, n + 1, v => by simp [st, st_set t n v]
theorem st_eq (l : List Value) (n : Nat) (v : Value) : (st l n v).toArray = l.toArray.setIfInBounds n v := by simp [st_set]
def ev (rs : List Value) : Operand → Value
  | .tmp t => gt rs t
  | .const v => v
  | .global g => .pointer (some ⟨g, 0, none⟩)
  | .func f => .func (.func f) #[] #[]
def pt (rs : List Value) : Option Tmp → Value → List Value
  | some d, v => st rs d v
  | none, _ => rs
def act (rs : List Value) : Act := { tmps := rs.toArray, defers := [] }
theorem act_eval (rs : List Value) (x : Operand) : (act rs).eval x = ev rs x := by
  cases x <;> simp [act, Act.eval, ev, gt_eq]
theorem act_eval' (rs : List Value) : (act rs).eval = ev rs := funext (act_eval rs)
theorem act_put (rs : List Value) (d : Option Tmp) (v : Value) : (act rs).put d v = act (pt rs d v) := by
  cases d <;> simp [act, Act.put, pt, st_eq]

/-! ### A frame that goes on -/
def G (P : Program) (f : FuncId) (R : Ending → World → Prop) (k : List Item) (rs : List Value) (W : World) : Prop :=
  ∀ (b : Frame) (cs : List Frame), b.kind = .normal → b.fn = f → ∃ e w' fr, R e w' ∧ Comes P (lone (b.at (act rs) k) cs W) (lone fr cs w') e ∧ fr.fn = f ∧ fr.leaving P w' e
section
variable {P : Program} {f : FuncId} {fn : Func} {R : Ending → World → Prop} {k : List Item} {rs rs' : List Value} {W W' : World}

theorem G.calls {c : Code} {args : Array Value} (hf : P.funcs[f]? = some fn) (hb : fn.body = some c)
    (h : G P f R [.code c] (args.toList ++ List.replicate (fn.ntmps - args.size) undef) W) : Calls P f args W R := by
  intro cs
  let b : Frame := { (default : Frame) with fn := f, kind := .normal }
  have henter : Frame.enter P f args .normal = b.at (act (args.toList ++ List.replicate (fn.ntmps - args.size) undef)) [.code c] := by
    simp [Frame.enter, Frame.at, hf, hb, b, act]
  obtain ⟨e, w', fr, hR, hc, h1, h2⟩ := h b cs rfl rfl
  rw [← henter] at hc
  exact ⟨e, w', fr, hR, hc, h1, h2⟩

theorem G.steps {k' : List Item} (hs : ∀ (b : Frame) cs, Steps P (lone (b.at (act rs) k) cs W) (lone (b.at (act rs') k') cs W')) (h : G P f R k' rs' W') : G P f R k rs W := by
  intro b cs hk hf
  obtain ⟨e, w', fr, hR, hc, h1, h2⟩ := h b cs hk hf
  exact ⟨e, w', fr, hR, Comes.of_steps (hs b cs) hc, h1, h2⟩

theorem G.seq {x y : Code} (h : G P f R (.code x :: .code y :: k) rs W) : G P f R (.code (.seq x y) :: k) rs W := .steps (fun _ _ => .one step_seq) h
theorem G.skip (h : G P f R k rs W) : G P f R (.code .skip :: k) rs W := .steps (fun _ _ => .one step_skip) h
theorem G.block {id : Nat} {c : Code} (h : G P f R (.code c :: .inBlock id :: k) rs W) : G P f R (.code (.block id c) :: k) rs W := .steps (fun _ _ => .one step_block) h
theorem G.inBlock {id : Nat} (h : G P f R k rs W) : G P f R (.inBlock id :: k) rs W := .steps (fun _ _ => .one step_inBlock) h
theorem G.loop {c : Code} (h : G P f R (.code c :: .inLoop c :: k) rs W) : G P f R (.code (.loop c) :: k) rs W := .steps (fun _ _ => .one step_loop) h
theorem G.inLoop {c : Code} (h : G P f R (.code c :: .inLoop c :: k) rs W) : G P f R (.inLoop c :: k) rs W := .steps (fun _ _ => .one step_inLoop) h
theorem G.exit {id : Nat} {k' : List Item} (he : exitTo id k = some k') (h : G P f R k' rs W) : G P f R (.code (.exit id) :: k) rs W := .steps (fun _ _ => .one (step_exit he)) h
theorem G.cond {c : Operand} {x y : Code} {t : Bool} (hc : ev rs c = .bool t) (h : G P f R (.code (if t then x else y) :: k) rs W) : G P f R (.code (.cond c x y) :: k) rs W :=
  .steps (fun _ _ => .one (step_cond (by rw [act_eval]; exact hc))) h

theorem G.ret {v : Value} (hf : P.funcs[f]? = some fn) (hr : (results fn rs.toArray).run P W = .ok v W) (hR : R (.returned v) W) : G P f R (.code .ret :: k) rs W := by
  intro b cs hk hfn
  refine ⟨.returned v, W, _, hR, .one step_ret, hfn, rfl, rfl, hk, fn, ?_, hr⟩
  show P.funcs[b.fn]? = some fn
  rw [hfn]
  exact hf
theorem G.fin {v : Value} (hf : P.funcs[f]? = some fn) (hr : (results fn rs.toArray).run P W = .ok v W) (hR : R (.returned v) W) : G P f R [] rs W := by
  intro b cs hk hfn
  refine ⟨.returned v, W, _, hR, .one step_end, hfn, rfl, rfl, hk, fn, ?_, hr⟩
  show P.funcs[b.fn]? = some fn
  rw [hfn]
  exact hf

/-! ### Regions -/
def Qn (P : Program) (f : FuncId) (R : Ending → World → Prop) (k : List Item) : Exit → Act → World → Prop
  | .normal, a, w => ∃ rs', a = act rs' ∧ G P f R k rs' w
  | _, _, _ => False
theorem Qn.of {id : Nat} {ops : Array Oper} {dr : Bool} (h : (Code.region id ops dr).wp P (Qn P f R k) (act rs) W) : G P f R (.code (.region id ops dr) :: k) rs W := by
  intro b cs hk hf
  obtain ⟨e, a', w', hq, harr⟩ := h b k cs
  cases e <;> simp only [Qn] at hq
  obtain ⟨rs', rfl, hg⟩ := hq
  obtain ⟨e, w'', fr, hR, hc, h1, h2⟩ := hg b cs hk hf
  exact ⟨e, w'', fr, hR, Comes.of_steps harr hc, h1, h2⟩
/-- The operations from number i on, in the order of the text; then k. -/
def O (P : Program) (f : FuncId) (R : Ending → World → Prop) (k : List Item) (ops : List Oper) (i : Nat) (rs : List Value) (W : World) : Prop :=
  wpOps P ops.toArray (Qn P f R k) (List.range' i (ops.length - i)) (act rs) W
theorem O.start {id : Nat} {ops : List Oper} (h : O P f R k ops 0 rs W) : G P f R (.code (.region id ops.toArray false) :: k) rs W := by
  refine Qn.of (wp_region ?_)
  rw [List.range_eq_range']
  simpa [O] using h
theorem O.fin {ops : List Oper} {i : Nat} (hi : ops.length ≤ i) (h : G P f R k rs W) : O P f R k ops i rs W := by
  unfold O
  rw [Nat.sub_eq_zero_of_le hi]
  exact ⟨rs, rfl, h⟩
def nth : List Oper → Nat → Option Oper
  | [], _ => none
  | o :: _, 0 => some o
  | _ :: t, n + 1 => nth t n
theorem nth_eq : ∀ (l : List Oper) (n : Nat), nth l n = l[n]?
  | [], _ => by simp [nth]
  | _ :: _, 0 => by simp [nth]
  | _ :: t, n + 1 => by simp [nth, nth_eq t n]
theorem O.step {ops : List Oper} {i : Nat} {o : Oper} (ho : nth ops i = some o) (hw : Region.wanted o (yielded ops.toArray rs.toArray) = true)
    (h : o.wp P (act rs) W (fun a w => ∃ rs', a = act rs' ∧ O P f R k ops (i + 1) rs' w) (Qn P f R k)) : O P f R k ops i rs W := by
  rw [nth_eq] at ho
  have hi : i < ops.length := by
    rcases Nat.lt_or_ge i ops.length with h | h
    · exact h
    · rw [List.getElem?_eq_none h] at ho; cases ho
  unfold O
  rw [show ops.length - i = (ops.length - (i + 1)) + 1 by omega, List.range'_succ]
  simp only [wpOps, List.getElem?_toArray, ho]
  rw [if_pos (show Region.wanted o (yielded ops.toArray (act rs).tmps) = true from hw)]
  refine .inl (Oper.wp_mono ?_ h)
  rintro a w ⟨rs', rfl, h'⟩
  exact h'
theorem O.pass {ops : List Oper} {i : Nat} {o : Oper} (ho : nth ops i = some o) (hw : Region.wanted o (yielded ops.toArray rs.toArray) = false)
    (h : O P f R k ops (i + 1) (pt rs o.dst undef) W) : O P f R k ops i rs W := by
  rw [nth_eq] at ho
  have hi : i < ops.length := by
    rcases Nat.lt_or_ge i ops.length with h | h
    · exact h
    · rw [List.getElem?_eq_none h] at ho; cases ho
  unfold O
  rw [show ops.length - i = (ops.length - (i + 1)) + 1 by omega, List.range'_succ]
  simp only [wpOps, List.getElem?_toArray, ho]
  rw [if_neg (by rw [show (act rs).tmps = rs.toArray from rfl, hw]; simp), act_put]
  exact h
theorem O.value {ops : List Oper} {i : Nat} {o : Oper} {v : Value} (ho : nth ops i = some o) (hw : Region.wanted o (yielded ops.toArray rs.toArray) = true)
    (hr : (execOp (ev rs) o).run P W = .ok (.value v) W') (h : O P f R k ops (i + 1) (pt rs o.dst v) W') : O P f R k ops i rs W := by
  refine O.step ho hw ?_
  unfold Oper.wp
  rw [act_eval', hr]
  simp only [Oper.upon]
  exact ⟨_, act_put _ _ _, h⟩
theorem O.skip {ops : List Oper} {i : Nat} {o : Oper} (ho : nth ops i = some o) (hw : Region.wanted o (yielded ops.toArray rs.toArray) = true)
    (hr : (execOp (ev rs) o).run P W = .ok .skip W') (h : O P f R k ops (i + 1) (pt rs o.dst undef) W') : O P f R k ops i rs W := by
  refine O.step ho hw ?_
  unfold Oper.wp
  rw [act_eval', hr]
  simp only [Oper.upon]
  exact ⟨_, act_put _ _ _, h⟩
theorem O.enter {ops : List Oper} {i : Nat} {o : Oper} {g : FuncId} {args : Array Value} (ho : nth ops i = some o) (hw : Region.wanted o (yielded ops.toArray rs.toArray) = true)
    (hr : (execOp (ev rs) o).run P W = .ok (.enter g args) W) (h : Calls P g args W fun e w' => ∃ v, e = .returned v ∧ O P f R k ops (i + 1) (pt rs o.dst v) w') : O P f R k ops i rs W := by
  refine O.step ho hw ?_
  unfold Oper.wp
  rw [act_eval', hr]
  simp only [Oper.upon]
  refine Calls.mono h ?_
  rintro e w' ⟨v, rfl, h'⟩
  exact ⟨_, act_put _ _ _, h'⟩
end
end Go.Proofs.XC
namespace Go.Proofs.XC
open Go Go.RowKit

/-! ### Operations that only reckon -/
def fieldOff (P : Program) (s : TypeId) (f : Nat) : Option Nat :=
  match P.underlying s with
  | some (.struct fs) => match fs.toList[f]? with
    | some fd => match P.info? fd.type with
      | some i => bif Nat.beq i.size 0 then none else some fd.offset
      | none => none
    | none => none
  | _ => none
def aggB (P : Program) (t : TypeId) : Option Bool :=
  match P.underlying t with
  | some (.struct _) | some (.array _ _) => some true
  | some _ => some false
  | none => none
/-- What a load of type t at cell 'off' of a block with these cells yields. -/
def rdC (P : Program) (t : TypeId) (off : Nat) (cs : List Value) : Option Value :=
  match aggB P t with
  | some true => match P.info? t with
    | some i => bif Nat.ble (off + i.size) cs.length then some (.agg ((cs.drop off).take i.size).toArray) else none
    | none => none
  | some false => cs[off]?
  | none => none
def eqF (P : Program) (E : TypeId → Value → Value → Option Bool) : List Field → List Value → List Value → Option Bool
  | [], _, _ => some true
  | f :: fs, xs, ys => if f.name = "_" then eqF P E fs xs ys else
    match rdC P f.type f.offset xs, rdC P f.type f.offset ys with
    | some a, some b => match E f.type a b, eqF P E fs xs ys with
      | some r, some s => some (r && s)
      | _, _ => none
    | _, _ => none
/-- '==' at a type whose values are whole numbers, bools, strings and structs of these. -/
def eqV (P : Program) : Nat → TypeId → Value → Value → Option Bool
  | 0, _, _, _ => none
  | d + 1, t, x, y => match P.underlying t, x, y with
    | some .bool, .bool a, .bool b => some (a == b)
    | some (.int _), .int k a, .int k' b => if k = k' then some (a == b) else none
    | some .string, .string a, .string b => some (a.toList == b.toList)
    | some (.struct fs), .agg xs, .agg ys => if P.stoodInHeld t = false then eqF P (eqV P d) fs.toList xs.toList ys.toList else none
    | _, _, _ => none
def eqD (P : Program) (t : TypeId) (x y : Value) : Option Bool := if P.eqGuardType P.depth t = false then eqV P 8 t x y else none
def pureBin (P : Program) (op : BinOp) (t : TypeId) (x y : Value) : Option Value :=
  match op, x, y with
  | .add, .int k a, .int k' b => if k = k' then some (.int k (k.wrap (a + b))) else none
  | .sub, .int k a, .int k' b => if k = k' then some (.int k (k.wrap (a - b))) else none
  | .mul, .int k a, .int k' b => if k = k' then some (.int k (k.wrap (a * b))) else none
  | .quo, .int k a, .int k' b => if k = k' then (if b = 0 then none else some (.int k (k.wrap (a.tdiv b)))) else none
  | .rem, .int k a, .int k' b => if k = k' then (if b = 0 then none else some (.int k (a.tmod b))) else none
  | .shl, .int k a, .int _ b => if b < 0 then none else some (.int k (k.wrap (a * 2 ^ (min b.toNat k.bits))))
  | .shr, .int k a, .int _ b => if b < 0 then none else some (.int k (a.fdiv (2 ^ (min b.toNat k.bits))))
  | .eql, .int k a, .int k' b => if k = k' then some (.bool (a == b)) else none
  | .neq, .int k a, .int k' b => if k = k' then some (.bool (a != b)) else none
  | .lss, .int k a, .int k' b => if k = k' then some (.bool (decide (a < b))) else none
  | .leq, .int k a, .int k' b => if k = k' then some (.bool (decide (a ≤ b))) else none
  | .gtr, .int k a, .int k' b => if k = k' then some (.bool (decide (a > b))) else none
  | .geq, .int k a, .int k' b => if k = k' then some (.bool (decide (a ≥ b))) else none
  | .eql, .bool a, .bool b => match P.underlying t with | some .bool => some (.bool (a == b)) | _ => none
  | .neq, .bool a, .bool b => match P.underlying t with | some .bool => some (.bool (!(a == b))) | _ => none
  | .eql, .agg a, .agg b => match eqD P t (.agg a) (.agg b) with | some r => some (.bool r) | none => none
  | .neq, .agg a, .agg b => match eqD P t (.agg a) (.agg b) with | some r => some (.bool (!r)) | none => none
  | .eql, .string a, .string b => some (.bool (a.toList == b.toList))
  | .neq, .string a, .string b => some (.bool (!(a.toList == b.toList)))
  | .lss, .string a, .string b => some (.bool (Op.bytesLess a.toList b.toList))
  | .gtr, .string a, .string b => some (.bool (!(Op.bytesLess a.toList b.toList || a.toList == b.toList)))
  | .leq, .string a, .string b => some (.bool (Op.bytesLess a.toList b.toList || a.toList == b.toList))
  | .geq, .string a, .string b => some (.bool (!Op.bytesLess a.toList b.toList))
  | .xor, .int k a, .int k' b => if k = k' then some (.int k (k.wrap (BitVec.ofInt k.bits a ^^^ BitVec.ofInt k.bits b).toNat)) else none
  | .and, .int k a, .int k' b => if k = k' then some (.int k (k.wrap (BitVec.ofInt k.bits a &&& BitVec.ofInt k.bits b).toNat)) else none
  | .or, .int k a, .int k' b => if k = k' then some (.int k (k.wrap (BitVec.ofInt k.bits a ||| BitVec.ofInt k.bits b).toNat)) else none
  | _, _, _ => none
def pureOp (P : Program) (rs : List Value) (o : Oper) : Option Value :=
  match o.op with
  | .move x => some (ev rs x)
  | .assign x => some (ev rs x)
  | .pick c a b => match ev rs c with
    | .bool t => some (bif t then ev rs a else ev rs b)
    | _ => none
  | .unOp .not _ x => match ev rs x with
    | .bool b => some (.bool (!b))
    | _ => none
  | .unOp .neg _ x => match ev rs x with
    | .int k n => some (.int k (k.wrap (0 - n)))
    | _ => none
  | .binOp op t x y _ => pureBin P op t (ev rs x) (ev rs y)
  | .convert s d x => match P.underlying s, P.underlying d, ev rs x with
    | some _, some (.int k), .int _ n => some (.int k (k.wrap n))
    | _, _, _ => none
  | .extract t i => match ev rs t with
    | .tuple vs => vs.toList[i]?
    | _ => none
  | .fieldAddr s x f => match ev rs x with
    | .pointer (some ⟨g, off, none⟩) => match fieldOff P s f with
      | some fo => some (.pointer (some ⟨g, off + fo, none⟩))
      | none => none
    | _ => none
  | .field s x f => match ev rs x with
    | .agg cs => match P.underlying s with
      | some (.struct fs) => match fs.toList[f]? with
        | some fd => rdC P fd.type fd.offset cs.toList
        | none => none
      | _ => none
    | _ => none
  | .build t parts => match P.built t (parts.toList.map fun p => (p.1, ev rs p.2)) with
    | some cs => some (.agg cs)
    | none => none
  | .makeFunc fn fi ca => some (.func fn (fi.toList.map (ev rs)).toArray (ca.toList.map (ev rs)).toArray)
  | .nilCheck x => match ev rs x with
    | .pointer (some a) => some (.pointer (some a))
    | _ => none
  | .call c => match c.callee with
    | .builtin .len => match c.args.toList, c.argTypes.toList with
      | [x], [t] => match P.underlying t, ev rs x with
        | some .string, .string s => some (goInt s.size)
        | some (.slice _), .slice _ n _ => some (goInt n)
        | _, _ => none
      | _, _ => none
    | .builtin .max => match c.args.toList with
      | [x, y] => match ev rs x, ev rs y with
        | .int k a, .int _ b => some (.int k (if b > a then b else a))
        | _, _ => none
      | _ => none
    | .builtin .min => match c.args.toList with
      | [x, y] => match ev rs x, ev rs y with
        | .int k a, .int _ b => some (.int k (if b < a then b else a))
        | _, _ => none
      | [x, y, z] => match ev rs x, ev rs y, ev rs z with
        | .int k a, .int _ b, .int _ d => some (.int k (if d < (if b < a then b else a) then d else (if b < a then b else a)))
        | _, _, _ => none
      | _ => none
    | _ => none
  | _ => none
end Go.Proofs.XC
namespace Go.Proofs.XC
open Go Go.RowKit
variable {P : Program} {rs : List Value}

theorem run_size {t : TypeId} {i : TypeInfo} (h : P.info? t = some i) (W : World) : (sizeOf t).run P W = .ok i.size W := by simp [sizeOf, typeInfo, h]
theorem run_isAgg {t : TypeId} {b : Bool} (h : aggB P t = some b) (W : World) : (isAgg t).run P W = .ok b W := by
  unfold aggB at h
  cases hd : P.underlying t with
  | none => simp [hd] at h
  | some d =>
    rw [hd] at h
    unfold isAgg
    simp only [Sem.run_bind, run_underlying hd, Result.andThen_ok]
    cases d <;> simp_all
theorem run_part {t : TypeId} {off : Nat} {cs : List Value} {v : Value} (h : rdC P t off cs = some v) (W : World) : (part t cs.toArray off).run P W = .ok v W := by
  unfold rdC at h
  cases ha : aggB P t with
  | none => simp [ha] at h
  | some b =>
    rw [ha] at h
    unfold part
    simp only [Sem.run_bind, run_isAgg ha, Result.andThen_ok]
    cases b with
    | true =>
      cases hi : P.info? t with
      | none => simp [hi] at h
      | some i =>
        simp only [hi] at h
        cases hb : Nat.ble (off + i.size) cs.length with
        | false => simp [hb] at h
        | true =>
          simp only [hb, cond_true, Option.some.injEq] at h
          subst h
          simp [run_size hi]
    | false =>
      simp only at h
      simp [h]

theorem eqF_run {E : TypeId → Value → Value → Option Bool} {d : Nat} (hE : ∀ t a b r, E t a b = some r → ∀ W, (Op.equalIn d t a b).run P W = .ok r W) :
    ∀ (fs : List Field) (xs ys : List Value) (r : Bool), eqF P E fs xs ys = some r → ∀ W, (Op.eqFields d xs.toArray ys.toArray fs).run P W = .ok r W
  | [], xs, ys, r, h, W => by
    simp only [eqF, Option.some.injEq] at h
    subst h
    simp [Op.eqFields]
  | f :: fs, xs, ys, r, h, W => by
    simp only [eqF] at h
    split at h
    · rename_i hn
      rw [Op.eqFields, if_neg (by simpa using hn)]
      exact eqF_run hE fs xs ys r h W
    · rename_i hn
      split at h
      · rename_i a b ha hb
        split at h
        · rename_i r1 s1 hr hs
          simp only [Option.some.injEq] at h
          subst h
          rw [Op.eqFields, if_pos hn]
          simp only [Sem.run_bind, run_part ha, run_part hb, Result.andThen_ok, hE _ _ _ _ hr]
          cases r1
          · simp
          · simpa using eqF_run hE fs xs ys s1 hs W
        · cases h
      · cases h
theorem eqV_run : ∀ (d : Nat) (t : TypeId) (x y : Value) (r : Bool), eqV P d t x y = some r → ∀ (m : Nat) (W : World), (Op.equalIn (d + m) t x y).run P W = .ok r W
  | 0, t, x, y, r, h => by simp [eqV] at h
  | d + 1, t, x, y, r, h => by
    intro m W
    rw [show d + 1 + m = (d + m) + 1 by omega]
    simp only [eqV] at h
    split at h
    · rename_i a b hu
      simp only [Option.some.injEq] at h
      subst h
      exact run_equalIn_bool W _ t a b hu
    · rename_i k0 k a k' b hu
      split at h
      · rename_i hk
        subst hk
        simp only [Option.some.injEq] at h
        subst h
        exact run_equalIn_int W _ t k k0 a b hu
      · cases h
    · rename_i a b hu
      simp only [Option.some.injEq] at h
      subst h
      exact run_equalIn_string W _ t a b hu
    · rename_i fs xs ys hu
      split at h
      · rename_i hp
        have hf : P.fieldsOf t = fs := by simp [Program.fieldsOf, hu]
        rw [run_equalIn_struct (P := P) W (d + m) t xs ys (by rw [hf]; exact hu) hp, hf]
        have := eqF_run (P := P) (E := eqV P d) (d := d + m) (fun t a b r hr W => eqV_run d t a b r hr m W) fs.toList xs.toList ys.toList r h W
        simpa using this
      · cases h
    · cases h
theorem eqD_run {t : TypeId} {x y : Value} {r : Bool} (h : eqD P t x y = some r) (W : World) : P.eqGuardType P.depth t = false ∧ (Op.equal t x y).run P W = .ok r W := by
  unfold eqD at h
  split at h
  · rename_i hg
    exact ⟨hg, eqV_run 8 t x y r h 9992 W⟩
  · cases h
theorem guard_agg {t : TypeId} {op : BinOp} (h : P.eqGuardType P.depth t = false) (xo yo : Operand) (a b : Array Value) (W : World) : (eqGuard op t xo yo (.agg a) (.agg b)).run P W = .ok () W := by
  cases op <;> simp only [eqGuard, Bool.not_true, Bool.not_false, Bool.false_eq_true, if_false, if_true] <;> first
    | (simp [program, Sem.run]; done)
    | (simp [program, Sem.run]; intro h2; rw [h] at h2; cases h2)

theorem pureBin_run {op : BinOp} {t : TypeId} {x y v : Value} (h : pureBin P op t x y = some v) (W : World) (xo yo : Operand) :
    (do eqGuard op t xo yo x y; binOp op t x y : Sem Value).run P W = .ok v W := by
  unfold pureBin at h
  split at h
  case h_1 | h_2 | h_3 =>
    split at h
    · rename_i hk; subst hk; simp only [Option.some.injEq] at h; subst h; simp [eqGuard, binOp, Op.intArith]
    · cases h
  case h_4 | h_5 =>
    split at h
    · rename_i hk; subst hk
      split at h
      · cases h
      · rename_i hb; simp only [Option.some.injEq] at h; subst h; simp [eqGuard, binOp, Op.intDiv, hb]
    · cases h
  case h_6 | h_7 =>
    split at h
    · cases h
    · rename_i hb; simp only [Option.some.injEq] at h; subst h; simp [eqGuard, binOp, Op.shift, hb]
  case h_8 | h_9 | h_10 | h_11 | h_12 | h_13 =>
    split at h
    · rename_i hk; subst hk; simp only [Option.some.injEq] at h; subst h; simp [eqGuard, binOp, Op.intCmp]
    · cases h
  case h_14 | h_15 =>
    split at h
    · rename_i hu; simp only [Option.some.injEq] at h; subst h; simp [eqGuard, run_eql_bool, run_neq_bool, hu]
    · cases h
  case h_16 | h_17 =>
    split at h
    · rename_i r hr
      simp only [Option.some.injEq] at h
      subst h
      obtain ⟨h1, h2⟩ := eqD_run hr W
      rw [Sem.run_bind, guard_agg h1]
      simp [binOp, h2]
    · cases h
  case h_18 | h_19 | h_20 | h_21 | h_22 | h_23 =>
    simp only [Option.some.injEq] at h; subst h; simp [eqGuard, binOp, Op.stringOp]
  case h_24 | h_25 | h_26 =>
    split at h
    · rename_i hk; subst hk; simp only [Option.some.injEq] at h; subst h; simp [eqGuard, binOp, Op.intBits]
    · cases h
  case h_27 => cases h

theorem pureOp_run {o : Oper} {v : Value} (h : pureOp P rs o = some v) (W : World) : (execOp (ev rs) o).run P W = .ok (.value v) W := by
  unfold pureOp at h
  split at h
  · rename_i x ho; simp only [Option.some.injEq] at h; subst h; simp [execOp, ho]
  · rename_i x ho; simp only [Option.some.injEq] at h; subst h; simp [execOp, ho]
  · rename_i c a b ho
    split at h
    · rename_i t hc
      simp only [Option.some.injEq] at h
      subst h
      simp only [execOp, ho, hc]
      cases t <;> simp [asBool]
    · cases h
  · rename_i x ho
    split at h
    · rename_i b hb
      simp only [Option.some.injEq] at h
      subst h
      simp [execOp, ho, hb, Op.unary]
    · cases h
  · rename_i x ho
    split at h
    · rename_i b hb
      simp only [Option.some.injEq] at h
      subst h
      simp [execOp, ho, hb, Op.unary, Op.intArith]
    · cases h
  · rename_i op t x y z ho
    have := pureBin_run h W x y
    simp only [execOp, ho]
    rw [Sem.run_bind, this]
    simp
  · rename_i s d x ho
    split at h
    · rename_i a k n b h1 h2 h3
      simp only [Option.some.injEq] at h
      subst h
      simp [execOp, ho, convert, h3, run_underlying h1, run_underlying h2, Conv.intToInt]
    · cases h
  · rename_i t i ho
    split at h
    · rename_i vs hv
      simp only [execOp, ho, hv, Instr.extract]
      have : vs[i]? = some v := by simpa using h
      simp [this]
    · cases h
  · rename_i s x f ho
    split at h
    · rename_i g off hv
      split at h
      · rename_i fo hf
        simp only [Option.some.injEq] at h
        subst h
        unfold fieldOff at hf
        split at hf
        · rename_i fs hu
          split at hf
          · rename_i fd hfd
            split at hf
            · rename_i i hi
              cases hz : Nat.beq i.size 0 with
              | true => simp [hz] at hf
              | false =>
                simp only [hz, cond_false, Option.some.injEq] at hf
                subst hf
                have hfd' : fs[f]? = some fd := by simpa using hfd
                have hne : ¬ i.size = 0 := by intro h0; rw [h0] at hz; cases hz
                simp [execOp, ho, hv, Instr.fieldAt, run_underlying hu, hfd', Instr.sureAddr, fieldPlace, run_size hi, hne]
                unfold Addr.add
                split <;> simp_all
            · cases hf
          · cases hf
        · cases hf
      · cases h
    · cases h
  · rename_i s x f ho
    split at h
    · rename_i cs hv
      split at h
      · rename_i fs hu
        split at h
        · rename_i fd hfd
          have hfd' : fs[f]? = some fd := by simpa using hfd
          have hp := run_part h W
          simp only [Array.toArray_toList] at hp
          simp [execOp, ho, hv, Instr.field, run_underlying hu, hfd', asAgg, hp]
        · cases h
      · cases h
    · cases h
  · rename_i t parts ho
    split at h
    · rename_i cs hb
      simp only [Option.some.injEq] at h
      subst h
      have he : (parts.map fun p => (p.1, ev rs p.2)).toList = parts.toList.map fun p => (p.1, ev rs p.2) := by simp
      have hr := run_build (P := P) W t (parts.map fun p => (p.1, ev rs p.2)) cs (by rw [he]; exact hb)
      simp only [execOp, ho]
      rw [Sem.run_bind]
      have : (Array.map (fun x => match x with | (i, x) => (i, ev rs x)) parts) = parts.map fun p => (p.1, ev rs p.2) := by rfl
      rw [this, hr]
      simp
    · cases h
  · rename_i fn fi ca ho
    simp only [Option.some.injEq] at h
    subst h
    have e1 : Array.map (ev rs) fi = (List.map (ev rs) fi.toList).toArray := by rw [← Array.toList_map, Array.toArray_toList]
    have e2 : Array.map (ev rs) ca = (List.map (ev rs) ca.toList).toArray := by rw [← Array.toList_map, Array.toArray_toList]
    simp only [execOp, ho, Instr.makeFunc, e1, e2]
    rfl
  · rename_i x ho
    split at h
    · rename_i a hv
      simp only [Option.some.injEq] at h
      subst h
      simp [execOp, ho, hv]
    · cases h
  · rename_i c ho
    split at h
    · rename_i hcal
      split at h
      · rename_i x t hx ht
        have e1 : c.args = #[x] := by rw [← Array.toArray_toList (xs := c.args), hx]
        have e2 : c.argTypes = #[t] := by rw [← Array.toArray_toList (xs := c.argTypes), ht]
        split at h
        · rename_i s hu hv
          simp only [Option.some.injEq] at h
          subst h
          simp [execOp, ho, resolve, hcal, e1, e2, invoke, builtin, Builtin.len_, hv, run_underlying hu]
        · rename_i e a n cp hu hv
          simp only [Option.some.injEq] at h
          subst h
          simp [execOp, ho, resolve, hcal, e1, e2, invoke, builtin, Builtin.len_, hv, run_underlying hu]
        · cases h
      · cases h
    · rename_i hcal
      split at h
      · rename_i x y hx
        have e1 : c.args = #[x, y] := by rw [← Array.toArray_toList (xs := c.args), hx]
        split at h
        · rename_i k a k' b h1 h2
          simp only [Option.some.injEq] at h
          subst h
          simp [execOp, ho, resolve, hcal, e1, invoke, builtin, Builtin.max_, Builtin.max2, h1, h2]
        · cases h
      · cases h
    · rename_i hcal
      split at h
      · rename_i x y hx
        have e1 : c.args = #[x, y] := by rw [← Array.toArray_toList (xs := c.args), hx]
        split at h
        · rename_i k a k' b h1 h2
          simp only [Option.some.injEq] at h
          subst h
          simp [execOp, ho, resolve, hcal, e1, invoke, builtin, Builtin.min_, Builtin.min2, h1, h2]
        · cases h
      · rename_i x y z hx
        have e1 : c.args = #[x, y, z] := by rw [← Array.toArray_toList (xs := c.args), hx]
        split at h
        · rename_i k a k' b k2 d h1 h2 h3
          simp only [Option.some.injEq] at h
          subst h
          simp [execOp, ho, resolve, hcal, e1, invoke, builtin, Builtin.min_, Builtin.min2, h1, h2, h3]
        · cases h
      · cases h
    · cases h
  · cases h
end Go.Proofs.XC
namespace Go.Proofs.XC
open Go Go.RowKit

/-! ### What is known of memory -/
structure Hold where
  own : Nat → Prop
  F : World → Prop
/-- A variable of the call's own, in a block of its own. -/
def box (g : Nat) (t : TypeId) (cs : List Value) : Hold := ⟨fun k => k = g, fun W => W.heap[g]? = some (.cells cs.toArray t (0, 0))⟩
/-- A row of the call's own: elements of type e, so many cells each. -/
def rowI (B : Nat) (e : TypeId) (size : Nat) (v : Value) (n : Nat) (cs : List Value) : Hold := ⟨fun k => v.ownBlock = some k, fun W => W.ownsRow B e size v n cs⟩
def dead : Hold := ⟨fun _ => False, fun _ => True⟩
def Hold.good (it : Hold) : Prop := ∀ W W' : World, (∀ k, it.own k → W'.heap[k]? = W.heap[k]?) → it.F W → it.F W'
theorem box_good (g : Nat) (t : TypeId) (cs : List Value) : (box g t cs).good := fun W W' h hF => (h g rfl).trans hF
theorem row_good (B : Nat) (e : TypeId) (size : Nat) (v : Value) (n : Nat) (cs : List Value) : (rowI B e size v n cs).good := by
  rintro W W' h ⟨h1, h2⟩
  refine ⟨h1, ?_⟩
  rcases h2 with h2 | ⟨g, cap, cur, rfl, hb, hh, r⟩
  · exact .inl h2
  · exact .inr ⟨g, cap, cur, rfl, hb, (h g (by simp [rowI, Value.ownBlock])).trans hh, r⟩
theorem dead_good : dead.good := fun _ _ _ _ => trivial

/-- What the call has changed of the world in which it began: nothing but the blocks of M; what it owns: each item by itself. -/
structure St (M : Nat → Prop) (w0 W : World) (its : List Hold) : Prop where
  os : W.os = w0.os
  tape : W.tape = w0.tape
  output : W.output = w0.output
  size : w0.heap.size ≤ W.heap.size
  keep : ∀ k, k < w0.heap.size → ¬ M k → W.heap[k]? = w0.heap[k]?
  all : ∀ it ∈ its, it.good ∧ it.F W ∧ ∀ k, it.own k → (w0.heap.size ≤ k ∨ M k) ∧ k < W.heap.size
  apart : its.Pairwise fun x y => ∀ k, x.own k → ¬ y.own k
def no : Nat → Prop := fun _ => False
section
variable {M : Nat → Prop} {w0 W W' : World} {its : List Hold} {it it' : Hold}

theorem St.init (M : Nat → Prop) (w0 : World) : St M w0 w0 [] := ⟨rfl, rfl, rfl, Nat.le_refl _, fun _ _ _ => rfl, (fun _ h => by cases h), .nil⟩
theorem St.below (S : St no w0 W its) : Below w0.heap.size w0 W := ⟨S.os, S.tape, S.output, S.size, fun k hk => S.keep k hk (fun h => h)⟩
theorem St.get {i : Nat} (S : St M w0 W its) (h : its[i]? = some it) : it.F W := (S.all it (List.mem_of_getElem? h)).2.1
theorem St.own {i : Nat} (S : St M w0 W its) (h : its[i]? = some it) : ∀ k, it.own k → (w0.heap.size ≤ k ∨ M k) ∧ k < W.heap.size := (S.all it (List.mem_of_getElem? h)).2.2
/-- The world has grown: nothing that was there has turned. -/
theorem St.frame (S : St M w0 W its) (hb : Below W.heap.size W W') : St M w0 W' its :=
  ⟨hb.os.trans S.os, hb.tape.trans S.tape, hb.output.trans S.output, Nat.le_trans S.size hb.size,
   fun k hk hM => (hb.block k (Nat.lt_of_lt_of_le hk S.size)).trans (S.keep k hk hM),
   fun it hi => by
    obtain ⟨h1, h2, h3⟩ := S.all it hi
    exact ⟨h1, h1 W W' (fun k hk => hb.block k (h3 k hk).2) h2, fun k hk => ⟨(h3 k hk).1, Nat.lt_of_lt_of_le (h3 k hk).2 hb.size⟩⟩, S.apart⟩
/-- One more item, in new blocks. -/
theorem St.add (S : St M w0 W its) (hb : Below W.heap.size W W') (hg : it.good) (hF : it.F W') (ho : ∀ k, it.own k → W.heap.size ≤ k ∧ k < W'.heap.size) : St M w0 W' (its ++ [it]) := by
  have S' := S.frame hb
  refine ⟨S'.os, S'.tape, S'.output, S'.size, S'.keep, fun x hx => ?_, ?_⟩
  · rcases List.mem_append.1 hx with hx | hx
    · exact S'.all x hx
    · rw [List.mem_singleton] at hx
      subst hx
      exact ⟨hg, hF, fun k hk => ⟨.inl (Nat.le_trans S.size (ho k hk).1), (ho k hk).2⟩⟩
  · rw [List.pairwise_append]
    refine ⟨S.apart, by simp, fun x hx y hy k hk hk' => ?_⟩
    rw [List.mem_singleton] at hy
    subst hy
    have h1 := ((S.all x hx).2.2 k hk).2
    have h2 := (ho k hk').1
    omega
theorem pairwise_set {α : Type} {R : α → α → Prop} : ∀ {l : List α} {i : Nat} {x y : α}, l[i]? = some x → l.Pairwise R → (∀ z, z ∈ l → R x z → R y z) → (∀ z, z ∈ l → R z x → R z y) → (l.set i y).Pairwise R
  | [], i, x, y, h, _, _, _ => by simp at h
  | a :: t, 0, x, y, h, hp, h1, h2 => by
    simp only [List.getElem?_cons_zero, Option.some.injEq] at h
    subst h
    rw [List.pairwise_cons] at hp
    simp only [List.set_cons_zero, List.pairwise_cons]
    exact ⟨fun z hz => h1 z (List.mem_cons_of_mem _ hz) (hp.1 z hz), hp.2⟩
  | a :: t, i + 1, x, y, h, hp, h1, h2 => by
    simp only [List.getElem?_cons_succ] at h
    rw [List.pairwise_cons] at hp
    simp only [List.set_cons_succ, List.pairwise_cons]
    refine ⟨fun z hz => ?_, pairwise_set h hp.2 (fun z hz => h1 z (List.mem_cons_of_mem _ hz)) (fun z hz => h2 z (List.mem_cons_of_mem _ hz))⟩
    rcases List.mem_or_eq_of_mem_set hz with hz | rfl
    · exact hp.1 z hz
    · exact h2 a List.mem_cons_self (hp.1 x (List.mem_of_getElem? h))
/-- Hold number i has been written (and new blocks may have come). -/
theorem St.upd {i : Nat} (S : St M w0 W its) (h : its[i]? = some it) (e1 : W'.os = W.os) (e2 : W'.tape = W.tape) (e3 : W'.output = W.output) (hs : W.heap.size ≤ W'.heap.size)
    (hk : ∀ k, k < W.heap.size → ¬ it.own k → W'.heap[k]? = W.heap[k]?) (hg : it'.good) (hF : it'.F W') (ho : ∀ k, it'.own k → (it.own k ∨ W.heap.size ≤ k) ∧ k < W'.heap.size) : St M w0 W' (its.set i it') := by
  have hmem := List.mem_of_getElem? h
  have hio := (S.all it hmem).2.2
  refine ⟨e1.trans S.os, e2.trans S.tape, e3.trans S.output, Nat.le_trans S.size hs, fun k hk1 hM => ?_, fun x hx => ?_, ?_⟩
  · refine (hk k (Nat.lt_of_lt_of_le hk1 S.size) (fun hown => ?_)).trans (S.keep k hk1 hM)
    rcases (hio k hown).1 with h1 | h1
    · omega
    · exact hM h1
  · obtain ⟨j, hj⟩ := List.mem_iff_getElem?.1 hx
    by_cases hij : i = j
    · subst hij
      have hlt : i < its.length := (List.getElem?_eq_some_iff.1 h).1
      rw [List.getElem?_set_self hlt] at hj
      obtain rfl := Option.some.inj hj
      refine ⟨hg, hF, fun k hk1 => ⟨?_, (ho k hk1).2⟩⟩
      rcases (ho k hk1).1 with h1 | h1
      · exact (hio k h1).1
      · exact .inl (Nat.le_trans S.size h1)
    · rw [List.getElem?_set_ne hij] at hj
      have hxm := List.mem_of_getElem? hj
      obtain ⟨g1, g2, g3⟩ := S.all x hxm
      have hne : ∀ k, x.own k → ¬ it.own k := by
        intro k hx1 hx2
        have hp := List.pairwise_iff_getElem.1 S.apart
        obtain ⟨hi', rfl⟩ := List.getElem?_eq_some_iff.1 h
        obtain ⟨hj', rfl⟩ := List.getElem?_eq_some_iff.1 hj
        rcases Nat.lt_or_ge i j with hl | hl
        · exact hp i j hi' hj' hl k hx2 hx1
        · exact hp j i hj' hi' (by omega) k hx1 hx2
      exact ⟨g1, g1 W W' (fun k hk1 => hk k (g3 k hk1).2 (hne k hk1)) g2, fun k hk1 => ⟨(g3 k hk1).1, Nat.lt_of_lt_of_le (g3 k hk1).2 hs⟩⟩
  · refine pairwise_set h S.apart (fun z hz hxz k hk1 hk2 => ?_) (fun z hz hzx k hk1 hk2 => ?_)
    · rcases (ho k hk1).1 with h1 | h1
      · exact hxz k h1 hk2
      · have := ((S.all z hz).2.2 k hk2).2; omega
    · rcases (ho k hk2).1 with h1 | h1
      · exact hzx k hk1 h1
      · have := ((S.all z hz).2.2 k hk1).2; omega
theorem St.sub {its' : List Hold} (S : St M w0 W its) (h : its'.Sublist its) : St M w0 W its' :=
  ⟨S.os, S.tape, S.output, S.size, S.keep, fun it hi => S.all it (h.subset hi), S.apart.sublist h⟩
theorem St.take (S : St M w0 W its) (n : Nat) : St M w0 W (its.take n) := S.sub (List.take_sublist n its)
end

theorem below_of_alloc (W : World) (o : Obj) : Below W.heap.size W (W.alloc o) := (Below.refl _ _).alloc (Nat.le_refl _) o
theorem below_of_drew (W : World) : Below W.heap.size W W.drew := (Below.refl _ _).drew

/-! ### The goals: over every world of which so much is known -/
structure GS (P : Program) (f : FuncId) (R : Ending → World → Prop) (M : Nat → Prop) (w0 : World) (its : List Hold) (k : List Go.Item) (rs : List Value) : Prop where
  out : ∀ W, St M w0 W its → G P f R k rs W
structure OS (P : Program) (f : FuncId) (R : Ending → World → Prop) (M : Nat → Prop) (w0 : World) (its : List Hold) (k : List Go.Item) (ops : List Oper) (i : Nat) (rs : List Value) : Prop where
  out : ∀ W, St M w0 W its → O P f R k ops i rs W
/-- An operation is carried out in every world of which so much is known; then K. -/
structure Ex (P : Program) (M : Nat → Prop) (w0 : World) (its : List Hold) (o : Oper) (rs : List Value) (K : List Hold → List Value → Prop) : Prop where
  out : ∀ Kw : List Value → World → Prop, (∀ its' rs', K its' rs' → ∀ W', St M w0 W' its' → Kw rs' W') → ∀ W, St M w0 W its → ∀ Q : Exit → Act → World → Prop, o.wp P (act rs) W (fun a w => ∃ rs', a = act rs' ∧ Kw rs' w) Q
end Go.Proofs.XC
namespace Go.Proofs.XC
open Go Go.RowKit
def nh : List Hold → Nat → Option Hold
  | [], _ => none
  | o :: _, 0 => some o
  | _ :: t, n + 1 => nh t n
theorem nh_eq : ∀ (l : List Hold) (n : Nat), nh l n = l[n]?
  | [], _ => by simp [nh]
  | _ :: _, 0 => by simp [nh]
  | _ :: t, n + 1 => by simp [nh, nh_eq t n]
def sh : List Hold → Nat → Hold → List Hold
  | [], _, _ => []
  | _ :: t, 0, v => v :: t
  | x :: t, n + 1, v => x :: sh t n v
theorem sh_eq : ∀ (l : List Hold) (n : Nat) (v : Hold), sh l n v = l.set n v
  | [], n, v => by simp [sh]
  | x :: t, 0, v => by simp [sh]
  | x :: t, n + 1, v => by simp [sh, sh_eq t n v]

variable {P : Program} {f : FuncId} {fn : Func} {R : Ending → World → Prop} {M : Nat → Prop} {w0 : World} {its : List Hold} {k : List Item} {rs : List Value} {ops : List Oper} {i : Nat}

/-! ### The frame -/
theorem calls {c : Code} {args : List Value} (hf : P.funcs[f]? = some fn) (hb : fn.body = some c)
    (h : GS P f R M w0 [] [.code c] (args ++ List.replicate (fn.ntmps - args.length) undef)) : Calls P f args.toArray w0 R :=
  G.calls hf hb (by simpa using h.out w0 (St.init M w0))
theorem c_seq {x y : Code} (h : GS P f R M w0 its (.code x :: .code y :: k) rs) : GS P f R M w0 its (.code (.seq x y) :: k) rs := ⟨fun W S => .seq (h.out W S)⟩
theorem c_skip (h : GS P f R M w0 its k rs) : GS P f R M w0 its (.code .skip :: k) rs := ⟨fun W S => .skip (h.out W S)⟩
theorem c_block {id : Nat} {c : Code} (h : GS P f R M w0 its (.code c :: .inBlock id :: k) rs) : GS P f R M w0 its (.code (.block id c) :: k) rs := ⟨fun W S => .block (h.out W S)⟩
theorem c_inb {id : Nat} (h : GS P f R M w0 its k rs) : GS P f R M w0 its (.inBlock id :: k) rs := ⟨fun W S => .inBlock (h.out W S)⟩
theorem c_inl {c : Code} (h : GS P f R M w0 its (.code c :: .inLoop c :: k) rs) : GS P f R M w0 its (.inLoop c :: k) rs := ⟨fun W S => .inLoop (h.out W S)⟩
theorem c_exit {id : Nat} {k' : List Item} (he : exitTo id k = some k') (h : GS P f R M w0 its k' rs) : GS P f R M w0 its (.code (.exit id) :: k) rs := ⟨fun W S => .exit he (h.out W S)⟩
theorem c_if {c : Operand} {x y : Code} (t : Bool) (hc : ev rs c = .bool t) (h1 : t = true → GS P f R M w0 its (.code x :: k) rs) (h2 : t = false → GS P f R M w0 its (.code y :: k) rs) : GS P f R M w0 its (.code (.cond c x y) :: k) rs := by
  refine ⟨fun W S => ?_⟩
  cases t with
  | true => exact .cond hc ((h1 rfl).out W S)
  | false => exact .cond hc ((h2 rfl).out W S)
theorem c_t {c : Operand} {x y : Code} (hc : ev rs c = .bool true) (h : GS P f R M w0 its (.code x :: k) rs) : GS P f R M w0 its (.code (.cond c x y) :: k) rs := ⟨fun W S => .cond hc (h.out W S)⟩
theorem c_f {c : Operand} {x y : Code} (hc : ev rs c = .bool false) (h : GS P f R M w0 its (.code y :: k) rs) : GS P f R M w0 its (.code (.cond c x y) :: k) rs := ⟨fun W S => .cond hc (h.out W S)⟩
/-- What is behind the first items is forgotten. -/
theorem keep (n : Nat) {its' : List Hold} (e : its.take n = its') (h : GS P f R M w0 its' k rs) : GS P f R M w0 its k rs := ⟨fun W S => h.out W (by rw [← e]; exact S.take n)⟩
theorem keepO (n : Nat) {its' : List Hold} (e : its.take n = its') (h : OS P f R M w0 its' k ops i rs) : OS P f R M w0 its k ops i rs := ⟨fun W S => h.out W (by rw [← e]; exact S.take n)⟩
theorem regs {rs' : List Value} (e : rs = rs') (h : GS P f R M w0 its k rs') : GS P f R M w0 its k rs := by rw [e]; exact h
theorem regsO {rs' : List Value} (e : rs = rs') (h : OS P f R M w0 its k ops i rs') : OS P f R M w0 its k ops i rs := by rw [e]; exact h

/-- A loop, by a measure: 'its' and the registers as functions of what changes; u: registers of which nothing is asked. -/
theorem loop {X : Type} (m : X → Nat) (Hy : X → Prop) (It : X → List Hold) (Rs : X → (Nat → Value) → List Value) (x0 : X) {c : Code}
    (h0 : Hy x0) (e1 : its.take (It x0).length = It x0) (e2 : rs = Rs x0 (gt rs))
    (step : ∀ x u, Hy x → (∀ y its' rs', m y < m x → Hy y → its'.take (It y).length = It y → rs' = Rs y (gt rs') → GS P f R M w0 its' (.inLoop c :: k) rs') → GS P f R M w0 (It x) (.code c :: .inLoop c :: k) (Rs x u)) :
    GS P f R M w0 its (.code (.loop c) :: k) rs := by
  have key : ∀ (n : Nat) (x : X) (u : Nat → Value), m x < n → Hy x → GS P f R M w0 (It x) (.code c :: .inLoop c :: k) (Rs x u) := by
    intro n
    induction n with
    | zero => intro x u h; omega
    | succ n ih =>
      intro x u hn hx
      refine step x u hx fun y its' rs' hm hy e1 e2 => c_inl (keep _ e1 ?_)
      rw [e2]
      exact ih y (gt rs') (by omega) hy
  refine ⟨fun W S => .loop ?_⟩
  have := (key (m x0 + 1) x0 (gt rs) (Nat.lt_succ_self _) h0).out W (by rw [← e1]; exact S.take _)
  rw [e2]
  exact this
/-- Several ways meet ahead of y. -/
theorem join {X : Type} (Hy : X → Prop) (It : X → List Hold) (Rs : X → (Nat → Value) → List Value) {c y : Code}
    (first : (∀ x its' rs', Hy x → its'.take (It x).length = It x → rs' = Rs x (gt rs') → GS P f R M w0 its' (.code y :: k) rs') → GS P f R M w0 its (.code c :: .code y :: k) rs)
    (rest : ∀ x u, Hy x → GS P f R M w0 (It x) (.code y :: k) (Rs x u)) : GS P f R M w0 its (.code c :: .code y :: k) rs :=
  first fun x its' rs' hx e1 e2 => keep _ e1 (by rw [e2]; exact rest x _ hx)

/-! ### Results -/
theorem c_ret {v : Value} (hf : P.funcs[f]? = some fn) (hr : ∀ W, St M w0 W its → (results fn rs.toArray).run P W = .ok v W) (hR : ∀ W, St M w0 W its → R (.returned v) W) : GS P f R M w0 its (.code .ret :: k) rs :=
  ⟨fun W S => .ret hf (hr W S) (hR W S)⟩
theorem c_fin {v : Value} (hf : P.funcs[f]? = some fn) (hr : ∀ W, St M w0 W its → (results fn rs.toArray).run P W = .ok v W) (hR : ∀ W, St M w0 W its → R (.returned v) W) : GS P f R M w0 its [] rs :=
  ⟨fun W S => .fin hf (hr W S) (hR W S)⟩
/-- The results, one by one: a register, or a variable in a block of the call's own. -/
inductive RV (P : Program) (its : List Hold) (rs : List Value) : List ResultVar → List Value → Prop
  | nil : RV P its rs [] []
  | tmp {t : Tmp} {r : List ResultVar} {v : Value} {vs : List Value} (e : gt rs t = v) (h : RV P its rs r vs) : RV P its rs (.tmp t :: r) (v :: vs)
  | cell {p : Tmp} {ty : TypeId} {r : List ResultVar} {v : Value} {vs : List Value} (j g : Nat) {t : TypeId} {cs : List Value} (hj : nh its j = some (box g t cs)) (e : gt rs p = .pointer (some ⟨g, 0, none⟩)) (hv : rdC P ty 0 cs = some v) (h : RV P its rs r vs) : RV P its rs (.cell p ty :: r) (v :: vs)
theorem run_loadVar_box {W : World} {g off : Nat} {t T : TypeId} {cs : List Value} {v : Value} (hg : W.heap[g]? = some (.cells cs.toArray T (0, 0))) (hv : rdC P t off cs = some v) : (loadVar t ⟨g, off, none⟩).run P W = .ok v W := by
  unfold rdC at hv
  cases ha : aggB P t with
  | none => simp [ha] at hv
  | some b =>
    rw [ha] at hv
    unfold loadVar
    simp only [Sem.run_bind, run_isAgg ha, Result.andThen_ok]
    have hcell : ∀ j, W.cell? ((⟨g, off, none⟩ : Addr).add j) = cs[off + j]? := by
      intro j
      have hadd : (⟨g, off, none⟩ : Addr).add j = ⟨g, off + j, none⟩ := by unfold Addr.add; split <;> simp_all
      rw [hadd]
      simp [World.cell?, hg]
    cases b with
    | true =>
      cases hi : P.info? t with
      | none => simp [hi] at hv
      | some i =>
        simp only [hi] at hv
        cases hb : Nat.ble (off + i.size) cs.length with
        | false => simp [hb] at hv
        | true =>
          simp only [hb, cond_true, Option.some.injEq] at hv
          subst hv
          have hle : off + i.size ≤ cs.length := Nat.le_of_ble_eq_true hb
          have hl : ((cs.drop off).take i.size).length = i.size := by simp; omega
          have := run_loadCells_list (P := P) W ⟨g, off, none⟩ ((cs.drop off).take i.size) (fun j v hj => by
            rw [hcell]
            rw [List.getElem?_take] at hj
            split at hj
            · rw [List.getElem?_drop] at hj; exact hj
            · cases hj)
          rw [hl] at this
          simp [run_size hi, this]
    | false =>
      simp only at hv
      have := hcell 0
      simp only [Addr.add, Nat.add_zero, if_true] at this
      simp [load, Sem.run, this, hv]
theorem RV.run {r : List ResultVar} {vs : List Value} (h : RV P its rs r vs) (W : World) (S : St M w0 W its) (g : ResultVar → Sem Value) (hg1 : ∀ t, g (.tmp t) = pure (rs.toArray.getD t undef)) (hg2 : ∀ a t, g (.cell a t) = (do loadVar t (← asAddr (rs.toArray.getD a undef)))) : (r.mapM g).run P W = .ok vs W := by
  induction h with
  | nil => simp
  | tmp e h ih => rw [List.mapM_cons, hg1, ← gt_eq, e]; simp [ih]
  | cell j gg hj e hv h ih =>
    rw [nh_eq] at hj
    have hb := S.get hj
    rw [List.mapM_cons, hg2, ← gt_eq, e]
    simp [asAddr, run_loadVar_box hb hv, ih]
theorem RV.results {r : List ResultVar} {vs : List Value} {v : Value} (hr : fn.results = r.toArray) (h : RV P its rs r vs) (hv : (match vs with | [v] => v | _ => .tuple vs.toArray) = v) (W : World) (S : St M w0 W its) : (results fn rs.toArray).run P W = .ok v W := by
  unfold Go.results
  rw [hr, List.mapM_toArray]
  simp only [Sem.run_bind, Sem.run_map]
  rw [h.run W S _ (fun t => rfl) (fun a t => rfl)]
  subst hv
  match vs with
  | [] => simp
  | [v] => simp
  | a :: b :: t => simp
/-- The plain return: nothing that was there has turned. -/
theorem ret {r : List ResultVar} {vs : List Value} {v : Value} (hf : P.funcs[f]? = some fn) (hr : fn.results = r.toArray) (h : RV P its rs r vs) (hv : (match vs with | [v] => v | _ => .tuple vs.toArray) = v)
    (hR : ∀ W, St M w0 W its → R (.returned v) W) : GS P f R M w0 its (.code .ret :: k) rs := c_ret hf (fun W S => h.results hr hv W S) hR
theorem fin {r : List ResultVar} {vs : List Value} {v : Value} (hf : P.funcs[f]? = some fn) (hr : fn.results = r.toArray) (h : RV P its rs r vs) (hv : (match vs with | [v] => v | _ => .tuple vs.toArray) = v)
    (hR : ∀ W, St M w0 W its → R (.returned v) W) : GS P f R M w0 its [] rs := c_fin hf (fun W S => h.results hr hv W S) hR

/-! ### Regions -/
theorem r_start {id : Nat} (h : OS P f R M w0 its k ops 0 rs) : GS P f R M w0 its (.code (.region id ops.toArray false) :: k) rs := ⟨fun W S => O.start (h.out W S)⟩
theorem r_end (hi : Nat.ble ops.length i = true) (h : GS P f R M w0 its k rs) : OS P f R M w0 its k ops i rs := ⟨fun W S => O.fin (Nat.le_of_ble_eq_true hi) (h.out W S)⟩
/-- May the operation come up, its guard being so? -/
def gd (ops : List Oper) (rs : List Value) (o : Oper) : Option Bool :=
  match o.guard with
  | none => some true
  | some (g, b) => match nth ops g with
    | some o' => match o'.dst with
      | some d => match gt rs d with
        | .bool b' => some (b' == b)
        | .tuple _ => some false
        | _ => none
      | none => none
    | none => none
theorem gd_wanted {o : Oper} {b : Bool} (h : gd ops rs o = some b) : Region.wanted o (yielded ops.toArray rs.toArray) = b := by
  unfold gd at h
  unfold Region.wanted
  split at h
  · rename_i hg
    rw [hg]
    simpa using h
  · rename_i g b0 hg
    rw [hg]
    split at h
    · rename_i o' ho
      split at h
      · rename_i d hd
        split at h
        · rename_i b' hb
          simp only [Option.some.injEq] at h
          subst h
          rw [nth_eq] at ho
          have hlt : d < rs.length := by
            rcases Nat.lt_or_ge d rs.length with hl | hl
            · exact hl
            · rw [gt_eq, Array.getD_eq_getD_getElem?, Array.getElem?_eq_none (by simpa using hl)] at hb
              simp [undef] at hb
          have hb2 : rs[d]? = some (.bool b') := by
            rw [gt_eq] at hb
            simp [hlt] at hb
            simp [hlt, hb]
          simp [yielded, ho, hd, hb2]
        · rename_i vs hb
          simp only [Option.some.injEq] at h
          subst h
          rw [nth_eq] at ho
          rw [gt_eq, Array.getD_eq_getD_getElem?] at hb
          have : yielded ops.toArray rs.toArray g = none := by
            simp only [yielded, List.getElem?_toArray, ho, Option.bind_some, hd]
            cases hr : rs[d]? with
            | none => simp
            | some v =>
              have hv : v = .tuple vs := by simpa [hr] using hb
              simp [hv]
          simp [this]
        · cases h
      · cases h
    · cases h
def stepR (P : Program) (ops : List Oper) (rs : List Value) (o : Oper) : Option (List Value) :=
  match gd ops rs o with
  | some true => match pureOp P rs o with
    | some v => some (pt rs o.dst v)
    | none => none
  | some false => some (pt rs o.dst undef)
  | none => none
def pureR (P : Program) (ops : List Oper) : Nat → Nat → List Value → List Value
  | 0, _, rs => rs
  | n + 1, i, rs => match nth ops i with
    | some o => match stepR P ops rs o with
      | some rs' => pureR P ops n (i + 1) rs'
      | none => rs
    | none => rs
def pureOK (P : Program) (ops : List Oper) : Nat → Nat → List Value → Bool
  | 0, _, _ => true
  | n + 1, i, rs => match nth ops i with
    | some o => match stepR P ops rs o with
      | some rs' => pureOK P ops n (i + 1) rs'
      | none => false
    | none => false
theorem O.stepR {W : World} {o : Oper} {rs' : List Value} (ho : nth ops i = some o) (hs : stepR P ops rs o = some rs') (h : O P f R k ops (i + 1) rs' W) : O P f R k ops i rs W := by
  unfold XC.stepR at hs
  split at hs
  · rename_i hg
    split at hs
    · rename_i v hv
      obtain rfl := Option.some.inj hs
      exact O.value ho (gd_wanted hg) (pureOp_run hv W) h
    · cases hs
  · rename_i hg
    obtain rfl := Option.some.inj hs
    exact O.pass ho (gd_wanted hg) h
  · cases hs
/-- n operations that only reckon. -/
theorem p (n : Nat) (h : OS P f R M w0 its k ops (i + n) (pureR P ops n i rs)) (hok : pureOK P ops n i rs = true := by kernel_rfl) : OS P f R M w0 its k ops i rs := by
  induction n generalizing i rs with
  | zero => exact h
  | succ n ih =>
    refine ⟨fun W S => ?_⟩
    simp only [pureOK] at hok
    simp only [pureR] at h
    split at hok
    · rename_i o ho
      rw [ho] at h
      simp only at h
      split at hok
      · rename_i rs' hs
        rw [hs] at h
        simp only at h
        exact O.stepR ho hs ((ih (by rw [show i + 1 + n = i + (n + 1) by omega]; exact h) hok).out W S)
      · cases hok
    · cases hok
theorem gd_ok {o : Oper} (h : gd ops rs o = some true) : Region.wanted o (yielded ops.toArray rs.toArray) = true := gd_wanted h
end Go.Proofs.XC
namespace Go.Proofs.XC
open Go Go.RowKit
variable {P : Program} {f : FuncId} {fn : Func} {R : Ending → World → Prop} {M : Nat → Prop} {w0 : World} {its : List Hold} {k : List Item} {rs : List Value} {ops : List Oper} {i : Nat} {o : Oper}

/-- One operation of a region that goes by the text's order. -/
theorem x (ho : nth ops i = some o) (hg : gd ops rs o = some true) (h : Ex P M w0 its o rs (fun its' rs' => OS P f R M w0 its' k ops (i + 1) rs')) : OS P f R M w0 its k ops i rs :=
  ⟨fun W S => O.step ho (gd_ok hg) (h.out (fun rs' w => O P f R k ops (i + 1) rs' w) (fun _ _ hk W' S' => hk.out W' S') W S _)⟩
variable {K : List Hold → List Value → Prop}
theorem Ex.value (h : ∀ W, St M w0 W its → ∃ v W' its', (execOp (ev rs) o).run P W = .ok (.value v) W' ∧ St M w0 W' its' ∧ K its' (pt rs o.dst v)) : Ex P M w0 its o rs K := by
  refine ⟨fun Kw hK W S Q => ?_⟩
  obtain ⟨v, W', its', hr, hs, hk⟩ := h W S
  unfold Oper.wp
  rw [act_eval', hr]
  simp only [Oper.upon]
  exact ⟨_, act_put _ _ _, hK _ _ hk W' hs⟩
theorem Ex.skip (h : ∀ W, St M w0 W its → ∃ W' its', (execOp (ev rs) o).run P W = .ok .skip W' ∧ St M w0 W' its' ∧ K its' (pt rs o.dst undef)) : Ex P M w0 its o rs K := by
  refine ⟨fun Kw hK W S Q => ?_⟩
  obtain ⟨W', its', hr, hs, hk⟩ := h W S
  unfold Oper.wp
  rw [act_eval', hr]
  simp only [Oper.upon]
  exact ⟨_, act_put _ _ _, hK _ _ hk W' hs⟩
theorem Ex.enter {g : FuncId} {args : List Value} (h : ∀ W, St M w0 W its → (execOp (ev rs) o).run P W = .ok (.enter g args.toArray) W ∧ Calls P g args.toArray W fun e w' => ∃ v its', e = .returned v ∧ St M w0 w' its' ∧ K its' (pt rs o.dst v)) : Ex P M w0 its o rs K := by
  refine ⟨fun Kw hK W S Q => ?_⟩
  obtain ⟨hr, hc⟩ := h W S
  unfold Oper.wp
  rw [act_eval', hr]
  simp only [Oper.upon]
  refine Calls.mono hc ?_
  rintro e w' ⟨v, its', rfl, hs, hk⟩
  exact ⟨_, act_put _ _ _, hK _ _ hk w' hs⟩
section

/-! ### Variables of the call's own -/
theorem e_box {t : TypeId} {x : Operand} {d : Option Tmp} {cs : List Value} (hop : o.op = .box t x) (hd : o.dst = d) (hc : (ev rs x).cells.toList = cs)
    (h : ∀ g : Nat, K (its ++ [box g t cs]) (pt rs d (.pointer (some ⟨g, 0, none⟩)))) : Ex P M w0 its o rs K := by
  refine .value fun W S => ⟨.pointer (some ⟨W.heap.size, 0, none⟩), W.alloc (.cells cs.toArray t), its ++ [box W.heap.size t cs], ?_, ?_, by rw [hd]; exact h _⟩
  · subst hc
    simp [execOp, hop, Instr.box, newVar, newRow, newObj, Sem.run]
  · refine S.add (below_of_alloc W _) (box_good _ _ _) (heap_alloc_new W _) ?_
    intro k hk
    have : k = W.heap.size := hk
    subst this
    exact ⟨Nat.le_refl _, by simp⟩
theorem e_alloc {t : TypeId} {d : Option Tmp} {cs : List Value} (hop : o.op = .alloc t) (hd : o.dst = d) (hz : ((P.info? t).bind (·.zero)).map (·.cells.toList) = some cs)
    (h : ∀ g : Nat, K (its ++ [box g t cs]) (pt rs d (.pointer (some ⟨g, 0, none⟩)))) : Ex P M w0 its o rs K := by
  refine .value fun W S => ⟨.pointer (some ⟨W.heap.size, 0, none⟩), W.alloc (.cells cs.toArray t), its ++ [box W.heap.size t cs], ?_, ?_, by rw [hd]; exact h _⟩
  · cases hi : P.info? t with
    | none => simp [hi] at hz
    | some ti =>
      cases hzz : ti.zero with
      | none => simp [hi, hzz] at hz
      | some z =>
        simp only [hi, hzz, Option.bind_some, Option.map_some, Option.some.injEq] at hz
        subst hz
        simp [execOp, hop, Instr.alloc, zeroValue, typeInfo, hi, hzz, newVar, newRow, newObj, Sem.run]
  · refine S.add (below_of_alloc W _) (box_good _ _ _) (heap_alloc_new W _) ?_
    intro k hk
    have : k = W.heap.size := hk
    subst this
    exact ⟨Nat.le_refl _, by simp⟩
theorem e_load {t T : TypeId} {x : Operand} {d : Option Tmp} {v : Value} {cs : List Value} (hop : o.op = .load t x) (hd : o.dst = d) (j g off : Nat) (hj : nh its j = some (box g T cs)) (hp : ev rs x = .pointer (some ⟨g, off, none⟩)) (hv : rdC P t off cs = some v)
    (h : K its (pt rs d v)) : Ex P M w0 its o rs K := by
  refine .value fun W S => ⟨v, W, its, ?_, S, by rw [hd]; exact h⟩
  rw [nh_eq] at hj
  have hb := S.get hj
  simp [execOp, hop, hp, Instr.loadAt, Instr.sureAddr, run_loadVar_box hb hv]
theorem run_storeVar_box {W : World} {g off : Nat} {t T : TypeId} {cs : List Value} {v : Value} (hg : W.heap[g]? = some (.cells cs.toArray T (0, 0))) (hn : (P.info? t).map (·.size) = some v.cells.toList.length)
    (h1 : v.cells.toList.all (·.oneCell') = true) (hle : off + v.cells.toList.length ≤ cs.length) :
    (storeVar t ⟨g, off, none⟩ v).run P W = .ok () (W.setRow g (cs.take off ++ v.cells.toList ++ cs.drop (off + v.cells.toList.length)).toArray) := by
  have := run_storeCells_at P g off T v.cells.toList 0 cs.toArray W hg (by simpa using hle) (fun x hx => (List.all_eq_true.1 h1) x hx)
  simp only [Nat.add_zero] at this
  cases hi : P.info? t with
  | none => simp [hi] at hn
  | some ti =>
    have hs : v.cells.size = ti.size := by simp [hi] at hn; omega
    simp [storeVar, run_size hi, hs, this]
/-- Cells written from place 'off' on. -/
def upd : Nat → List Value → List Value → List Value
  | _, [], cs => cs
  | 0, v :: vs, _ :: cs => v :: upd 0 vs cs
  | 0, _ :: _, [] => []
  | n + 1, vs, c :: cs => c :: upd n vs cs
  | _ + 1, _ :: _, [] => []
theorem upd_eq : ∀ (off : Nat) (vs cs : List Value), off + vs.length ≤ cs.length → upd off vs cs = cs.take off ++ vs ++ cs.drop (off + vs.length)
  | off, [], cs, h => by
    cases off with
    | zero => simp [upd]
    | succ n => cases cs <;> simp [upd]
  | 0, v :: vs, [], h => by simp at h
  | 0, v :: vs, c :: cs, h => by
    have ih := upd_eq 0 vs cs (by simp at h ⊢; omega)
    simp only [upd, ih]
    simp [Nat.add_comm]
  | n + 1, v :: vs, [], h => by simp at h
  | n + 1, v :: vs, c :: cs, h => by
    have h' : n + (v :: vs).length ≤ cs.length := by
      have : (c :: cs).length = cs.length + 1 := rfl
      omega
    have ih := upd_eq n (v :: vs) cs h'
    simp only [upd, ih]
    rw [show n + 1 + (v :: vs).length = (n + (v :: vs).length) + 1 by omega, List.take_succ_cons, List.drop_succ_cons]
    simp
theorem e_store {t T : TypeId} {x y : Operand} {cs cs' vs : List Value} (hop : o.op = .store t x y) (hd : o.dst = none) (j g off : Nat) (hj : nh its j = some (box g T cs)) (hp : ev rs x = .pointer (some ⟨g, off, none⟩)) (hv : (ev rs y).cells.toList = vs)
    (hn : (P.info? t).map (·.size) = some vs.length) (h1 : vs.all (·.oneCell') = true) (hle : Nat.ble (off + vs.length) cs.length = true) (hu : upd off vs cs = cs')
    (h : K (sh its j (box g T cs')) rs) : Ex P M w0 its o rs K := by
  refine .skip fun W S => ?_
  rw [nh_eq] at hj
  have hb := S.get hj
  subst hv
  have hle' := Nat.le_of_ble_eq_true hle
  rw [upd_eq _ _ _ hle'] at hu
  refine ⟨W.setRow g cs'.toArray, sh its j (box g T cs'), ?_, ?_, by rw [hd]; exact h⟩
  · have := run_storeVar_box (P := P) (off := off) hb hn h1 hle'
    rw [hu] at this
    simp [execOp, hop, hp, Instr.storeAt, Instr.sureAddr, this]
  · rw [sh_eq]
    refine S.upd hj rfl rfl rfl (by simp) (fun k hk hne => setRow_other W g k _ (fun e => hne e)) (box_good _ _ _) (setRow_heap W g _ _ T _ hb) ?_
    intro k hk
    have hk' : k = g := hk
    subst hk'
    exact ⟨.inl rfl, by simpa using (S.own hj k rfl).2⟩

/-! ### Calls -/
theorem run_call {c : Call} {g : FuncId} {x : Operand} {gfn : Func} {fst caps : Array Value} {args : List Value} (hop : o.op = .call c) (hcal : c.callee = .value x) (hx : ev rs x = .func (.func g) fst caps) (hgf : P.funcs[g]? = some gfn)
    (hb : gfn.body.isNone = false) (hn : (gfn.name == "runtime.NumGoroutine") = false) (ha : fst.toList ++ c.args.toList.map (ev rs) ++ caps.toList = args) (W : World) : (execOp (ev rs) o).run P W = .ok (.enter g args.toArray) W := by
  subst ha
  simp only [execOp, hop, resolve, hcal, hx, Deferred.ofValue, Sem.run_bind, Sem.run_pure, Result.andThen_ok, invoke, callFunc, program, Sem.run, hgf]
  have hn' : ¬ (gfn.name = "runtime.NumGoroutine") := by simpa using hn
  simp [hn', hb]
/-- A call of which the result alone is told. -/
theorem e_call {c : Call} {d : Option Tmp} {x : Operand} (hop : o.op = .call c) (hd : o.dst = d) (hcal : c.callee = .value x) (g : FuncId) {gfn : Func} {caps : Array Value} {args : List Value} {v : Value} (hx : ev rs x = .func (.func g) #[] caps) (hgf : P.funcs[g]? = some gfn)
    (hb : gfn.body.isNone = false) (hn : (gfn.name == "runtime.NumGoroutine") = false) (ha : c.args.toList.map (ev rs) ++ caps.toList = args)
    (hc : ∀ W, St M w0 W its → Calls P g args.toArray W fun e W' => e = .returned v ∧ Below W.heap.size W W')
    (h : K its (pt rs d v)) : Ex P M w0 its o rs K := by
  refine .enter (g := g) (args := args) fun W S => ⟨run_call hop hcal hx hgf hb hn (by simpa using ha) W, (hc W S).mono ?_⟩
  rintro e W' ⟨rfl, hbl⟩
  exact ⟨v, its, rfl, S.frame hbl, by rw [hd]; exact h⟩
theorem own_weaken' {w : World} {b b' : Nat} {e : TypeId} {size n : Nat} {v : Value} {xs : List Value} (h : w.ownsRow b e size v n xs) (hb : b' ≤ b) : w.ownsRow b' e size v n xs := by
  refine ⟨h.1, ?_⟩
  rcases h.2 with h2 | ⟨g, cap, cur, hv, hg, r⟩
  · exact .inl h2
  · exact .inr ⟨g, cap, cur, hv, Nat.le_trans hb hg, r⟩
theorem own_form {w : World} {b : Nat} {e : TypeId} {size n : Nat} {v : Value} {xs : List Value} (h : w.ownsRow b e size v n xs) : ∃ A c, v = .slice A n c := by
  rcases h.2 with ⟨rfl, rfl⟩ | ⟨g, cap, cur, rfl, _⟩
  · exact ⟨none, 0, rfl⟩
  · exact ⟨_, cap, rfl⟩
/-- A call whose result bears a new row. -/
theorem e_callr {c : Call} {d : Option Tmp} {x : Operand} (hop : o.op = .call c) (hd : o.dst = d) (hcal : c.callee = .value x) (g : FuncId) {gfn : Func} {caps : Array Value} {args : List Value} (res : Value → Value) {e : TypeId} {size n : Nat} {cs : List Value} (hx : ev rs x = .func (.func g) #[] caps) (hgf : P.funcs[g]? = some gfn)
    (hb : gfn.body.isNone = false) (hn : (gfn.name == "runtime.NumGoroutine") = false) (ha : c.args.toList.map (ev rs) ++ caps.toList = args)
    (hc : ∀ W, St M w0 W its → Calls P g args.toArray W fun en W' => ∃ v, en = .returned (res v) ∧ W'.ownsRow W.heap.size e size v n cs ∧ Below W.heap.size W W')
    (h : ∀ A cp, K (its ++ [rowI w0.heap.size e size (.slice A n cp) n cs]) (pt rs d (res (.slice A n cp)))) : Ex P M w0 its o rs K := by
  refine .enter (g := g) (args := args) fun W S => ⟨run_call hop hcal hx hgf hb hn (by simpa using ha) W, (hc W S).mono ?_⟩
  rintro en W' ⟨v, rfl, hown, hbl⟩
  obtain ⟨A, cp, rfl⟩ := own_form hown
  refine ⟨_, its ++ [rowI w0.heap.size e size (.slice A n cp) n cs], rfl, ?_, by rw [hd]; exact h A cp⟩
  refine S.add hbl (row_good _ _ _ _ _ _) (own_weaken' hown S.size) ?_
  intro k hk
  have hk' : (Value.slice A n cp).ownBlock = some k := hk
  exact hown.lt k hk'
end
end Go.Proofs.XC
namespace Go.Proofs.XC
open Go Go.RowKit

/-! ### A region that draws its order -/
section
variable {P : Program} {ops : Array Oper} {Q : Exit → Act → World → Prop} {S : World → Prop}
def Up (w w' : World) : Prop := Below w.heap.size w w'
theorem Up.refl (w : World) : Up w w := Below.refl _ _
theorem Up.trans {a b c : World} (h : Up a b) (h' : Up b c) : Up a c := Below.trans (B := a.heap.size) h ⟨h'.os, h'.tape, h'.output, h'.size, fun k hk => h'.block k (Nat.lt_of_lt_of_le hk h.size)⟩
/-- Whatever order is picked from here on, and whatever blocks have come meanwhile. -/
def AB (P : Program) (ops : Array Oper) (Q : Exit → Act → World → Prop) (S : Array Bool → World → Prop) : Nat → Array Bool → Act → World → Prop
  | 0, listed, a, w => Region.ready .any ops listed = [] ∧ ∀ w', Up w w' → Q .normal a w'
  | fuel + 1, listed, a, w =>
    (Region.ready .any ops listed = [] → ∀ w', Up w w' → Q .normal a w') ∧
    ∀ i ∈ Region.ready .any ops listed, ∀ w', Up w w' → wpOp P ops Q i (fun a' w'' => S (listed.setIfInBounds i true) w'' ∧ AB P ops Q S fuel (listed.setIfInBounds i true) a' w'') a w'
theorem AB.up {S : Array Bool → World → Prop} : ∀ {fuel : Nat} {listed : Array Bool} {a : Act} {w w' : World}, AB P ops Q S fuel listed a w → Up w w' → AB P ops Q S fuel listed a w'
  | 0, _, _, _, _, h, hu => ⟨h.1, fun w2 h2 => h.2 w2 (hu.trans h2)⟩
  | _ + 1, _, _, _, _, h, hu => ⟨fun h0 w2 h2 => h.1 h0 w2 (hu.trans h2), fun i hi w2 h2 => h.2 i hi w2 (hu.trans h2)⟩
theorem AB.any {S : Array Bool → World → Prop} : ∀ {fuel : Nat} {listed : Array Bool} {a : Act} {w : World}, AB P ops Q S fuel listed a w → wpAny P .any ops Q fuel listed a w
  | 0, _, _, w, h => ⟨h.1, h.2 w (Up.refl w)⟩
  | _ + 1, _, _, w, h => ⟨fun h0 => h.1 h0 w (Up.refl w), fun i hi => wpOp_mono (fun _ _ h' => h'.2.any) (h.2 i hi w (Up.refl w))⟩
/-- In every world of S the operation leaves v, and no block is turned. -/
def Qt (P : Program) (ops : Array Oper) (S : World → Prop) (o : Oper) (v : Value) (a : Act) : Prop :=
  (Region.wanted o (yielded ops a.tmps) = true ∧ ∀ w, S w → ((execOp a.eval o).run P w = .ok (.value v) w ∨ ∃ g args, (execOp a.eval o).run P w = .ok (.enter g args) w ∧ Calls P g args w fun e w' => e = .returned v ∧ Up w w')) ∨
  (Region.wanted o (yielded ops a.tmps) = false ∧ v = undef)
theorem Qt.same {o : Oper} {v : Value} {a a' : Act} (hy : Qt P ops S o v a) (he : execOp a'.eval o = execOp a.eval o)
    (hw : Region.wanted o (yielded ops a'.tmps) = Region.wanted o (yielded ops a.tmps)) : Qt P ops S o v a' := by
  unfold Qt at *
  rw [he, hw]
  exact hy
theorem Qt.wpOp {i : Nat} {o : Oper} {v : Value} {a : Act} (hi : ops[i]? = some o) (hy : Qt P ops S o v a) {K : Act → World → Prop} {w : World} (hS : S w) (h : ∀ w', Up w w' → K (a.put o.dst v) w') : wpOp P ops Q i K a w := by
  unfold Go.wpOp
  simp only [hi]
  rcases hy with ⟨hw, hv⟩ | ⟨hw, rfl⟩
  · rw [if_pos hw]
    refine .inl ?_
    unfold Oper.wp
    rcases hv w hS with hv | ⟨g, args, hv, hc⟩
    · rw [hv]; simp only [Oper.upon]; exact h w (Up.refl w)
    · rw [hv]
      simp only [Oper.upon]
      refine Calls.mono hc ?_
      rintro e w' ⟨rfl, hu⟩
      exact h w' hu
  · rw [if_neg (by rw [hw]; simp)]
    exact h w (Up.refl w)
/-- An operation apart from oi goes the same, whether oi's value is already there. -/
theorem wpOp_apart {j : Nat} {oi oj : Oper} {v : Value} (hj : ops[j]? = some oj) (hap : oi.apart ops oj = true) (hsi : ∀ cs b, oi.op ≠ .select cs b) (hsj : ∀ cs b, oj.op ≠ .select cs b)
    (hQ : ∀ c a w, Q (.panic c) (a.put oi.dst v) w → Q (.panic c) a w) {K : Act → World → Prop} {a : Act} {w : World}
    (hy : Qt P ops S oi v a) (h : wpOp P ops Q j K (a.put oi.dst v) w) : wpOp P ops Q j (fun a' w' => Qt P ops S oi v a' ∧ K (a'.put oi.dst v) w') a w := by
  obtain ⟨h1, h2, h3⟩ := Oper.apart_spec hap
  have stay : ∀ (a : Act), Qt P ops S oi v a → ∀ u, Qt P ops S oi v (a.put oj.dst u) := fun a hy u =>
    hy.same (execOp_put oi hsi a oj.dst u h3) (wanted_put oi a oj.dst u h3)
  unfold wpOp at *
  simp only [hj] at *
  rw [wanted_put oj a oi.dst v h1] at h
  by_cases hw : Region.wanted oj (yielded ops a.tmps) = true
  · rw [if_pos hw] at h ⊢
    rcases h with h | ⟨hasks, hlets⟩
    case inr => exact .inr ⟨by unfold Oper.asks at *; rw [execOp_put oj hsj a oi.dst v h1] at hasks; exact hasks, hlets⟩
    refine .inl ?_
    unfold Oper.wp at *
    rw [execOp_put oj hsj a oi.dst v h1] at h
    generalize (execOp a.eval oj).run P w = r at *
    match r, h with
    | .ok (.value u) w', h => exact ⟨stay a hy u, by rw [← Act.put_comm a v u h2]; exact h⟩
    | .ok .skip w', h => exact ⟨stay a hy _, by rw [← Act.put_comm a v undef h2]; exact h⟩
    | .ok (.defer d) w', h =>
      refine ⟨stay { a with defers := d :: a.defers } (Qt.same (a := a) hy rfl rfl) _, ?_⟩
      rw [← Act.put_comm _ v undef h2, ← Act.put_defers]
      exact h
    | .ok (.enter f args) w', h =>
      refine Calls.mono h fun e w'' he => ?_
      cases e with
      | returned u => exact ⟨stay a hy u, by rw [← Act.put_comm a v u h2]; exact he⟩
      | panicked c => exact hQ _ _ _ he
      | outgrown => exact he
    | .ok (.row row args) w', h => exact Rows.mono h fun u w'' he => ⟨stay a hy u, by rw [← Act.put_comm a v u h2]; exact he⟩
    | .halt (.panic u) w', h => exact hQ _ _ _ h
  · rw [if_neg hw] at h ⊢
    exact ⟨stay a hy _, by rw [← Act.put_comm a v undef h2]; exact h⟩
theorem AB.first {S : World → Prop} {S2 : Array Bool → World → Prop} {i kk : Nat} {oi : Oper} {v : Value} (hi : ops[i]? = some oi) (hsel : ∀ (j : Nat) (o : Oper) cs b, ops[j]? = some o → o.op ≠ .select cs b)
    (hQ : ∀ c a w, Q (.panic c) (a.put oi.dst v) w → Q (.panic c) a w) (hSu : ∀ w w', S w → Up w w' → S w') (hSu2 : ∀ l w w', S2 l w → Up w w' → S2 l w')
    (hS2 : ∀ l w, l.getD kk false = false → S2 l w → S w) (us : List Nat) (hus : ∀ u ∈ us, ∀ ou, ops[u]? = some ou → ∃ e ∈ ou.after, Region.binds .any e = true ∧ (e.on = i ∨ e.on ∈ us)) (hku : kk ∈ us ∨ ops[kk]? = none) (hiu : i ∉ us) (hik : i ≠ kk) :
    ∀ (fuel : Nat) (listed : Array Bool) (a : Act) (w : World),
      (∀ j oj, ops[j]? = some oj → j ≠ i → listed.getD j true = false → (∀ e ∈ oj.after, Region.binds .any e = true → e.on ≠ i) → oi.apart ops oj = true) →
      i ∈ Region.ready .any ops listed → Qt P ops S oi v a → S w → listed.getD kk false = false → (∀ u ∈ us, listed.getD u false = false) → (∀ l, l.getD kk false = false → S2 l = S2 (listed.setIfInBounds i true)) →
      AB P ops Q S2 fuel (listed.setIfInBounds i true) (a.put oi.dst v) w → S2 (listed.setIfInBounds i true) w → AB P ops Q S2 (fuel + 1) listed a w := by
  intro fuel
  induction fuel with
  | zero =>
    intro listed a w _ hr hy hS _ _ _ H H2
    refine ⟨fun h => (by rw [h] at hr; cases hr), fun j hj w2 h2 => ?_⟩
    by_cases hji : j = i
    · subst hji
      exact hy.wpOp hi (hSu _ _ hS h2) fun w' hu => ⟨hSu2 _ _ _ (hSu2 _ _ _ H2 h2) hu, H.up (h2.trans hu)⟩
    · have := ready_mono hj hji
      rw [H.1] at this
      cases this
  | succ fuel ih =>
    intro listed a w hfree hr hy hS hk0 hu0 hS2e H H2
    refine ⟨fun h => (by rw [h] at hr; cases hr), fun j hj w2 h2 => ?_⟩
    by_cases hji : j = i
    · subst hji
      exact hy.wpOp hi (hSu _ _ hS h2) fun w' hu => ⟨hSu2 _ _ _ (hSu2 _ _ _ H2 h2) hu, H.up (h2.trans hu)⟩
    · have h1 := H.2 j (ready_mono hj hji) w2 h2
      obtain ⟨hjun, oj, hoj, hall⟩ := mem_ready.1 hj
      have hnot : ∀ e ∈ oj.after, Region.binds .any e = true → e.on ≠ i := fun e he hb heq => by
        have h1 := hall e he hb
        have h0 := (mem_ready.1 hr).1
        rw [heq] at h1
        rcases Nat.lt_or_ge i listed.size with h' | h'
        · simp [h'] at h0 h1; rw [h0] at h1; cases h1
        · simp [Array.getElem?_eq_none h'] at h1
      have hju : j ∉ us := by
        intro hj2
        obtain ⟨e, he, hb, heq⟩ := hus j hj2 oj hoj
        rcases heq with heq | heq
        · exact hnot e he hb heq
        · have h3 := hall e he hb
          have h4 := hu0 e.on heq
          rw [h4] at h3
          cases h3
      have hjk : j ≠ kk := by
        rintro rfl
        rcases hku with h3 | h3
        · exact hju h3
        · rw [h3] at hoj; cases hoj
      have hk1 : (listed.setIfInBounds j true).getD kk false = false := by rw [getD_set_ne false hjk]; exact hk0
      have h2' := wpOp_apart hoj (hfree j oj hoj hji hjun hnot) (fun cs b => hsel i oi cs b hi) (fun cs b => hsel j oj cs b hoj) hQ hy h1
      have hfree' : ∀ k ok, ops[k]? = some ok → k ≠ i → (listed.setIfInBounds j true).getD k true = false →
          (∀ e ∈ ok.after, Region.binds .any e = true → e.on ≠ i) → oi.apart ops ok = true := fun k ok hk hki hun hno => by
        refine hfree k ok hk hki ?_ hno
        by_cases hjk : j = k
        · subst hjk; exact hjun
        · rw [getD_set_ne true hjk] at hun; exact hun
      have hcomm : (listed.setIfInBounds j true).setIfInBounds i true = (listed.setIfInBounds i true).setIfInBounds j true := Array.setIfInBounds_comm _ _ hji
      have hk2 : ((listed.setIfInBounds i true).setIfInBounds j true).getD kk false = false := by
        rw [getD_set_ne false hjk, getD_set_ne false hik]; exact hk0
      have he1 : S2 ((listed.setIfInBounds i true).setIfInBounds j true) = S2 (listed.setIfInBounds i true) := hS2e _ hk2
      refine wpOp_mono (fun a' w' h3 => ⟨?_, ih (listed.setIfInBounds j true) a' w' hfree' (ready_mono hr (Ne.symm hji)) h3.1 ?_ hk1 ?_ ?_ ?_ ?_⟩) h2'
      · rw [hS2e _ hk1, ← he1]; exact h3.2.1
      · exact hS2 _ _ hk2 h3.2.1
      · intro u hu
        rw [getD_set_ne false (show j ≠ u from fun h => hju (by rw [h]; exact hu))]
        exact hu0 u hu
      · intro l hl
        rw [hcomm, he1]
        exact hS2e l hl
      · rw [hcomm]; exact h3.2.2
      · rw [hcomm]; exact h3.2.1
end
end Go.Proofs.XC
namespace Go.Proofs.XC
open Go Go.RowKit
variable {P : Program} {f : FuncId} {fn : Func} {R : Ending → World → Prop} {M : Nat → Prop} {w0 : World} {its its0 : List Hold} {k : List Item} {rs : List Value} {ops : List Oper} {i fuel : Nat} {o : Oper} {listed : Array Bool}

/-- An operation that leaves a value and turns no block. -/
structure Yd (P : Program) (M : Nat → Prop) (w0 : World) (its : List Hold) (o : Oper) (rs : List Value) (v : Value) : Prop where
  out : ∀ W, St M w0 W its → ((execOp (ev rs) o).run P W = .ok (.value v) W ∨ ∃ g args, (execOp (ev rs) o).run P W = .ok (.enter g args) W ∧ Calls P g args W fun e w' => e = .returned v ∧ Up W w')
theorem e_y {K : List Hold → List Value → Prop} {v : Value} (h : Yd P M w0 its o rs v) (hk : K its (pt rs o.dst v)) : Ex P M w0 its o rs K := by
  refine ⟨fun Kw hK W S Q => ?_⟩
  unfold Oper.wp
  rw [act_eval']
  rcases h.out W S with hr | ⟨g, args, hr, hc⟩
  · rw [hr]
    simp only [Oper.upon]
    exact ⟨_, act_put _ _ _, hK _ _ hk W S⟩
  · rw [hr]
    simp only [Oper.upon]
    refine Calls.mono hc ?_
    rintro e w' ⟨rfl, hu⟩
    exact ⟨_, act_put _ _ _, hK _ _ hk w' (S.frame hu)⟩
/-- One quiet operation, by the text's order. -/
theorem xy {v : Value} (ho : nth ops i = some o) (h : Yd P M w0 its o rs v) (hk : OS P f R M w0 its k ops (i + 1) (pt rs o.dst v)) (hg : gd ops rs o = some true := by kernel_rfl) : OS P f R M w0 its k ops i rs := x ho hg (e_y h hk)
theorem y_pure {v : Value} (h : pureOp P rs o = some v) : Yd P M w0 its o rs v := ⟨fun W S => .inl (pureOp_run h W)⟩
theorem y_load {t T : TypeId} {x : Operand} {cs : List Value} (v : Value) (j g off : Nat) (hop : o.op = .load t x := by rfl) (hj : nh its j = some (box g T cs) := by rfl) (hp : ev rs x = .pointer (some ⟨g, off, none⟩) := by kernel_rfl) (hv : rdC P t off cs = some v := by kernel_rfl) : Yd P M w0 its o rs v := by
  refine ⟨fun W S => .inl ?_⟩
  rw [nh_eq] at hj
  have hb := S.get hj
  simp [execOp, hop, hp, Instr.loadAt, Instr.sureAddr, run_loadVar_box hb hv]
theorem y_call {c : Call} {g : FuncId} {gfn : Func} (args : List Value) (v : Value) (hgf : P.funcs[g]? = some gfn)
    (hc : ∀ W, St M w0 W its → Calls P g args.toArray W fun e W' => e = .returned v ∧ Below W.heap.size W W')
    (hop : o.op = .call c := by rfl) (hcal : c.callee = .value (.func g) := by rfl) (hb : gfn.body.isNone = false := by rfl) (hn : (gfn.name == "runtime.NumGoroutine") = false := by kernel_rfl) (ha : c.args.toList.map (ev rs) = args := by kernel_rfl) : Yd P M w0 its o rs v :=
  ⟨fun W S => .inr ⟨g, args.toArray, run_call (fst := #[]) (caps := #[]) hop hcal (x := .func g) rfl hgf hb hn (by simpa using ha) W, hc W S⟩⟩
/-- A call of a function value. -/
theorem y_callv {c : Call} {g : FuncId} {gfn : Func} {x : Operand} (caps : List Value) (args : List Value) (v : Value) (hgf : P.funcs[g]? = some gfn)
    (hc : ∀ W, St M w0 W its → Calls P g args.toArray W fun e W' => e = .returned v ∧ Below W.heap.size W W')
    (hop : o.op = .call c := by rfl) (hcal : c.callee = .value x := by rfl) (hx : ev rs x = .func (.func g) #[] caps.toArray := by kernel_rfl) (hb : gfn.body.isNone = false := by rfl) (hn : (gfn.name == "runtime.NumGoroutine") = false := by kernel_rfl) (ha : c.args.toList.map (ev rs) ++ caps = args := by kernel_rfl) : Yd P M w0 its o rs v :=
  ⟨fun W S => .inr ⟨g, args.toArray, run_call (fst := #[]) hop hcal hx hgf hb hn (by simpa using ha) W, hc W S⟩⟩

/-! ### Regions that draw -/
/-- What is known while operation number kk has not been carried out. -/
def SK (M : Nat → Prop) (w0 : World) (its0 : List Hold) (kk : Nat) (l : Array Bool) (W : World) : Prop := l.getD kk false = false → St M w0 W its0
theorem SK.up {M : Nat → Prop} {w0 : World} {its0 : List Hold} {kk : Nat} (l : Array Bool) (w w' : World) (h : SK M w0 its0 kk l w) (hu : Up w w') : SK M w0 its0 kk l w' := fun h0 => St.frame (h h0) hu
structure AS (P : Program) (f : FuncId) (R : Ending → World → Prop) (M : Nat → Prop) (w0 : World) (its0 : List Hold) (kk : Nat) (its : List Hold) (k : List Item) (ops : List Oper) (fuel : Nat) (listed : Array Bool) (rs : List Value) : Prop where
  out : ∀ W, St M w0 W its → AB P ops.toArray (Qn P f R k) (SK M w0 its0 kk) fuel listed (act rs) W
variable {kk : Nat}
theorem a_start {id : Nat} (kk n m : Nat) (h : AS P f R M w0 (its.take n) kk its k ops m (Array.replicate m false) rs) (hm : ops.length = m := by kernel_rfl) (hx : P.follows .mixedOrders = true := by kernel_rfl) : GS P f R M w0 its (.code (.region id ops.toArray true) :: k) rs := by
  refine ⟨fun W S => Qn.of (wp_region_any hx ?_)⟩
  subst hm
  have S' : St M w0 { W with drawn := W.drawn + 1 } its := S.frame (below_of_drew W)
  simpa using (h.out _ S').any
theorem a_done (h : GS P f R M w0 its k rs) (hr : Region.ready .any ops.toArray listed = [] := by kernel_rfl) : AS P f R M w0 its0 kk its k ops fuel listed rs := by
  have hq : ∀ W, St M w0 W its → ∀ w', Up W w' → Qn P f R k .normal (act rs) w' := fun W S w' hu => ⟨rs, rfl, h.out w' (S.frame hu)⟩
  refine ⟨fun W S => ?_⟩
  cases fuel with
  | zero => exact ⟨hr, hq W S⟩
  | succ n => exact ⟨fun _ => hq W S, fun i hi => by rw [hr] at hi; cases hi⟩
/-- The operations that wait for operation i, one by one. -/
def deps (i : Nat) : Nat → List Oper → List Nat → List Nat
  | _, [], acc => acc
  | u, o :: r, acc => deps i (u + 1) r (if o.after.toList.any (fun e => Region.binds .any e && (e.on == i || acc.contains e.on)) then u :: acc else acc)
def hit (ops : List Oper) (i : Nat) (us : List Nat) (u : Nat) : Bool := match nth ops u with
  | some o => o.after.toList.any fun e => Region.binds .any e && (e.on == i || us.contains e.on)
  | none => true
def waits (ops : List Oper) (kk : Nat) (listed : Array Bool) (i : Nat) (us : List Nat) : Bool := (us.contains kk || Nat.ble ops.length kk) && us.all (fun u => !(listed.getD u false)) && us.all (hit ops i us) && !(us.contains i) && !(i == kk) && !(listed.getD kk false)
/-- May it be taken first? -/
def tk (ops : List Oper) (kk : Nat) (listed : Array Bool) (i : Nat) : Bool := (Region.ready .any ops.toArray listed).contains i && Region.free .any ops.toArray listed i && Region.noSelect ops.toArray && waits ops kk listed i (deps i 0 ops [])
theorem a_first {v : Value} (hi : nth ops i = some o) (ht : tk ops kk listed i = true) (hq : ∀ a, a = act rs → Qt P ops.toArray (fun W' => St M w0 W' its0) o v a) (hsub : ∀ W, St M w0 W its → St M w0 W its0)
    (h : AS P f R M w0 its0 kk its k ops fuel (listed.setIfInBounds i true) (pt rs o.dst v)) : AS P f R M w0 its0 kk its k ops (fuel + 1) listed rs := by
  refine ⟨fun W S => ?_⟩
  rw [nth_eq] at hi
  simp only [tk, Bool.and_eq_true] at ht
  obtain ⟨⟨⟨h1, h2⟩, h3⟩, h4⟩ := ht
  generalize deps i 0 ops [] = us at h4
  simp only [waits, Bool.and_eq_true, Bool.or_eq_true, Bool.not_eq_true', List.all_eq_true] at h4
  obtain ⟨⟨⟨⟨⟨g1, g2⟩, g3⟩, g4⟩, g5⟩, g6⟩ := h4
  have hus : ∀ u ∈ us, ∀ ou, ops.toArray[u]? = some ou → ∃ e ∈ ou.after, Region.binds .any e = true ∧ (e.on = i ∨ e.on ∈ us) := by
    intro u hu ou hou
    have hou' : ops[u]? = some ou := by simpa using hou
    rw [← nth_eq] at hou'
    have g := g3 u hu
    unfold hit at g
    rw [hou'] at g
    obtain ⟨e, he, hb⟩ := List.any_eq_true.1 g
    simp only [Bool.and_eq_true, Bool.or_eq_true, beq_iff_eq, List.contains_iff_mem] at hb
    exact ⟨e, by simpa using he, hb.1, hb.2⟩
  have hku : kk ∈ us ∨ ops.toArray[kk]? = none := by
    rcases g1 with g1 | g1
    · left; simpa using g1
    · right; simpa using Nat.le_of_ble_eq_true g1
  have hik : i ≠ kk := by simpa using g5
  refine AB.first (S := fun W' => St M w0 W' its0) (S2 := SK M w0 its0 kk) (i := i) (kk := kk) (oi := o) (v := v) (by simpa using hi) (Region.noSelect_spec h3) (fun c a w hp => hp) (fun w w' hs hu => St.frame hs hu) SK.up (fun l w h0 hs => hs h0) us hus hku (by simpa using g4) hik fuel listed (act rs) W (Region.free_spec (by simpa using hi) h2) (by simpa using h1) (hq _ rfl) (hsub W S) g6 g2 ?_ ?_ (fun _ => hsub W S)
  · intro l hl
    have h6 : (listed.setIfInBounds i true).getD kk false = false := by rw [getD_set_ne false hik]; exact g6
    funext W'
    apply propext
    exact ⟨fun hs _ => hs hl, fun hs _ => hs h6⟩
  · rw [act_put]
    exact h.out W S
/-- A quiet operation comes first. -/
theorem a_q (i : Nat) {v : Value} (n : Nat) (hi : nth ops i = some o) (h : Yd P M w0 its0 o rs v) (hk : AS P f R M w0 its0 kk its k ops fuel (listed.setIfInBounds i true) (pt rs o.dst v))
    (hn : its.take n = its0 := by rfl) (hg : gd ops rs o = some true := by kernel_rfl) (ht : tk ops kk listed i = true := by kernel_rfl) : AS P f R M w0 its0 kk its k ops (fuel + 1) listed rs := by
  refine a_first hi ht (fun a ha => ?_) (fun W S => by rw [← hn]; exact S.take n) hk
  subst ha
  refine .inl ⟨gd_ok hg, fun w hs => ?_⟩
  rw [act_eval']
  exact h.out w hs
/-- May n operations that only reckon, from number i on, come first, one behind the other? -/
def apOK (P : Program) (ops : List Oper) (kk : Nat) : Nat → Nat → Array Bool → List Value → Bool
  | 0, _, _, _ => true
  | n + 1, i, listed, rs => match nth ops i with
    | some o => tk ops kk listed i && (match stepR P ops rs o with
      | some rs' => apOK P ops kk n (i + 1) (listed.setIfInBounds i true) rs'
      | none => false)
    | none => false
def marks : Nat → Nat → Array Bool → Array Bool
  | 0, _, l => l
  | n + 1, i, l => marks n (i + 1) (l.setIfInBounds i true)
theorem a_p (i m n : Nat) (h : AS P f R M w0 its0 kk its k ops fuel (marks m i listed) (pureR P ops m i rs)) (hn : its.take n = its0 := by rfl) (hok : apOK P ops kk m i listed rs = true := by kernel_rfl) : AS P f R M w0 its0 kk its k ops (fuel + m) listed rs := by
  induction m generalizing i listed rs fuel with
  | zero => exact h
  | succ m ih =>
    simp only [apOK] at hok
    simp only [pureR, marks] at h
    split at hok
    · rename_i o ho
      rw [ho] at h
      simp only [Bool.and_eq_true] at hok
      obtain ⟨ht, hok⟩ := hok
      simp only at h
      split at hok
      · rename_i rs' hs
        rw [hs] at h
        simp only at h
        have h2 := ih (i := i + 1) (fuel := fuel) h hok
        unfold stepR at hs
        split at hs
        · rename_i hgd
          split at hs
          · rename_i v hv
            obtain rfl := Option.some.inj hs
            refine a_first ho ht (fun a ha => ?_) (fun W S => by rw [← hn]; exact S.take n) h2
            subst ha
            exact .inl ⟨gd_ok hgd, fun w hs => .inl (by rw [act_eval']; exact pureOp_run hv w)⟩
          · cases hs
        · rename_i hgd
          obtain rfl := Option.some.inj hs
          refine a_first (v := undef) ho ht (fun a ha => ?_) (fun W S => by rw [← hn]; exact S.take n) h2
          subst ha
          exact .inr ⟨gd_wanted hgd, rfl⟩
        · cases hs
      · cases hok
    · cases hok
/-- Whichever comes up. -/
theorem a_all (l : List Nat) (h : ∀ i ∈ l, ∃ o, nth ops i = some o ∧ gd ops rs o = some true ∧ Ex P M w0 its o rs (fun its' rs' => ((listed.setIfInBounds i true).getD kk false = true ∨ its'.take (its0.length) = its0) ∧ AS P f R M w0 its0 kk its' k ops fuel (listed.setIfInBounds i true) rs'))
    (hne : l.isEmpty = false := by kernel_rfl) (hr : Region.ready .any ops.toArray listed = l := by kernel_rfl) : AS P f R M w0 its0 kk its k ops (fuel + 1) listed rs := by
  refine ⟨fun W S => ⟨fun h0 => ?_, fun i hi w' hu => ?_⟩⟩
  · rw [hr] at h0
    subst h0
    cases hne
  · rw [hr] at hi
    obtain ⟨o, ho, hg, hx⟩ := h i hi
    rw [nth_eq] at ho
    unfold wpOp
    simp only [List.getElem?_toArray, ho]
    rw [if_pos (show Region.wanted o (yielded ops.toArray (act rs).tmps) = true from gd_ok hg)]
    refine .inl (Oper.wp_mono ?_ (hx.out (fun rs' w => SK M w0 its0 kk (listed.setIfInBounds i true) w ∧ AB P ops.toArray (Qn P f R k) (SK M w0 its0 kk) fuel (listed.setIfInBounds i true) (act rs') w) (fun its' rs' hk W' S' => ⟨fun h0 => ?_, hk.2.out W' S'⟩) w' (S.frame hu) _))
    · rintro a w ⟨rs', rfl, h'⟩
      exact h'
    · rcases hk.1 with h1 | h1
      · rw [h0] at h1; cases h1
      · rw [← h1]; exact S'.take _
theorem a_one (i : Nat) (ho : nth ops i = some o) (h : Ex P M w0 its o rs (fun its' rs' => ((listed.setIfInBounds i true).getD kk false = true ∨ its'.take (its0.length) = its0) ∧ AS P f R M w0 its0 kk its' k ops fuel (listed.setIfInBounds i true) rs'))
    (hg : gd ops rs o = some true := by kernel_rfl) (hr : Region.ready .any ops.toArray listed = [i] := by kernel_rfl) : AS P f R M w0 its0 kk its k ops (fuel + 1) listed rs :=
  a_all [i] (fun j hj => by rw [List.mem_singleton] at hj; subst hj; exact ⟨o, ho, hg, h⟩) rfl hr
end Go.Proofs.XC
namespace Go.Proofs.XC
open Go Go.RowKit

/-! ### Texts -/
abbrev Str := List UInt8
def bs (l : Str) : ByteArray := ⟨⟨l⟩⟩
theorem bs_size (l : Str) : (bs l).size = l.length := rfl
theorem bs_app (a b : Str) : bs a ++ bs b = bs (a ++ b) := by
  apply ByteArray.ext
  simp [bs]
theorem bs_cut (s : Str) (a b : Nat) : (bs s).extract a b = bs ((s.drop a).take (b - a)) := by
  apply ByteArray.ext
  simp only [ByteArray.data_extract]
  apply Array.ext'
  simp [bs, List.extract]
theorem bs_get (s : Str) (i : Nat) (b : UInt8) (h : s[i]? = some b) : (bs s)[i]? = some b := by
  have h2 := List.getElem?_eq_some_iff.1 h
  obtain ⟨h3, h4⟩ := h2
  have h3' : i < (bs s).size := h3
  rw [getElem?_pos (bs s) i h3']
  congr 1
theorem bs_toList (s : Str) : (bs s).toList = s := ByteArray.toList_mk s
/-- Are the texts one? Does the first come first? -/
def seq (a b : Str) : Bool := (bs a).toList == (bs b).toList
def slt (a b : Str) : Bool := Op.bytesLess (bs a).toList (bs b).toList
theorem seq_eq (a b : Str) : seq a b = decide (a = b) := by
  unfold seq
  rw [bs_toList, bs_toList]
  by_cases h : a = b <;> simp [h]
theorem slt_eq (a b : Str) : slt a b = Op.bytesLess a b := by unfold slt; rw [bs_toList, bs_toList]

/-! ### Rows -/
/-- A slice that reads so: flat cells. -/
def Rd (W : World) (size : Nat) (v : Value) (n : Nat) (cs : List Value) : Prop :=
  ∃ A c, v = .slice A n c ∧ cs.length = n * size ∧ n ≤ 9223372036854775807 ∧ n ≤ c ∧ (0 < n → ∃ b off, A = some ⟨b, off, none⟩ ∧ b < W.heap.size ∧ ∀ j u, cs[j]? = some u → W.cell? ⟨b, off + j, none⟩ = some u)
theorem Rd.up {W W' : World} {size n : Nat} {v : Value} {cs : List Value} (h : Rd W size v n cs) (hu : Up W W') : Rd W' size v n cs := by
  obtain ⟨A, c, h1, h2, h3, h3', h4⟩ := h
  refine ⟨A, c, h1, h2, h3, h3', fun hn => ?_⟩
  obtain ⟨b, off, e, hb, hc⟩ := h4 hn
  exact ⟨b, off, e, Nat.lt_of_lt_of_le hb hu.size, fun j u hj => (hu.cell (p := ⟨b, off + j, none⟩) hb).trans (hc j u hj)⟩
theorem Rd.own {W : World} {B e size n : Nat} {v : Value} {cs : List Value} (h : W.ownsRow B e size v n cs) : Rd W size v n cs := by
  obtain ⟨h1, h2⟩ := h
  rcases h2 with ⟨rfl, rfl⟩ | ⟨g, cap, cur, rfl, hb, hh, hnc, hm, hcs, ht⟩
  · exact ⟨none, 0, rfl, h1, by omega, by omega, fun h => by omega⟩
  · refine ⟨_, cap, rfl, h1, by simp only [maxLen] at hm; omega, hnc, fun _ => ⟨g, 0, rfl, (Array.getElem?_eq_some_iff.1 hh).1, fun j u hj => ?_⟩⟩
    rw [Nat.zero_add, cell_of_row W g j cur e (0, 0) hh, ← Array.getElem?_toList]
    rw [← ht, List.getElem?_take] at hj
    split at hj
    · exact hj
    · cases hj
/-- How elements stand in cells. -/
structure Enc (α : Type) where
  E : α → List Value
  sz : Nat
  by_ : Nat
  len : ∀ x, (E x).length = sz
  one : ∀ x, ∀ u ∈ E x, u.oneCell' = true
  pos : 0 < sz
def eI (k : IntKind) : Enc Int := ⟨fun x => [.int k x], 1, k.bits / 8, fun _ => rfl, fun x u h => by rw [List.mem_singleton] at h; subst h; rfl, Nat.one_pos⟩
def eB : Enc Bool := ⟨fun x => [.bool x], 1, 1, fun _ => rfl, fun x u h => by rw [List.mem_singleton] at h; subst h; rfl, Nat.one_pos⟩
def eS : Enc Str := ⟨fun x => [.string (bs x)], 1, 16, fun _ => rfl, fun x u h => by rw [List.mem_singleton] at h; subst h; rfl, Nat.one_pos⟩
section
variable {α : Type} (e : Enc α)
def Enc.flat (l : List α) : List Value := l.flatMap e.E
theorem Enc.flat_length : ∀ (l : List α), (e.flat l).length = l.length * e.sz
  | [] => by simp [Enc.flat]
  | x :: l => by
    have := Enc.flat_length l
    simp only [Enc.flat, List.flatMap_cons, List.length_append, e.len] at this ⊢
    rw [this, List.length_cons, Nat.succ_mul]
    omega
theorem Enc.flat_get : ∀ {l : List α} {i : Nat} {x : α} {j : Nat} {u : Value}, l[i]? = some x → (e.E x)[j]? = some u → (e.flat l)[i * e.sz + j]? = some u
  | [], i, x, j, u, h, _ => by simp at h
  | y :: l, 0, x, j, u, h, hu => by
    simp only [List.getElem?_cons_zero, Option.some.injEq] at h
    subst h
    have hj : j < (e.E y).length := (List.getElem?_eq_some_iff.1 hu).1
    simp only [Enc.flat, List.flatMap_cons, Nat.zero_mul, Nat.zero_add]
    rw [List.getElem?_append_left hj]
    exact hu
  | y :: l, i + 1, x, j, u, h, hu => by
    have ih := Enc.flat_get (l := l) (i := i) (by simpa using h) hu
    simp only [Enc.flat, List.flatMap_cons] at ih ⊢
    rw [List.getElem?_append_right (by rw [e.len, Nat.succ_mul]; omega), e.len, show (i + 1) * e.sz + j - e.sz = i * e.sz + j by rw [Nat.succ_mul]; omega]
    exact ih
theorem Enc.flat_one (l : List α) : ∀ u ∈ e.flat l, u.oneCell' = true := by
  intro u hu
  obtain ⟨x, _, hx⟩ := List.mem_flatMap.1 hu
  exact e.one x u hx
theorem Enc.flat_app (l l' : List α) : e.flat (l ++ l') = e.flat l ++ e.flat l' := by simp [Enc.flat]
theorem Enc.flat_drop : ∀ (k : Nat) (l : List α), (e.flat l).drop (k * e.sz) = e.flat (l.drop k)
  | 0, l => by simp
  | k + 1, [] => by simp [Enc.flat]
  | k + 1, x :: l => by
    have ih := Enc.flat_drop k l
    simp only [Enc.flat, List.flatMap_cons, List.drop_succ_cons] at ih ⊢
    rw [Nat.succ_mul, Nat.add_comm, ← List.drop_drop, ← e.len x, List.drop_left, e.len x]
    exact ih
theorem Enc.flat_take : ∀ (k : Nat) (l : List α), (e.flat l).take (k * e.sz) = e.flat (l.take k)
  | 0, l => by simp [Enc.flat]
  | k + 1, [] => by simp [Enc.flat]
  | k + 1, x :: l => by
    have ih := Enc.flat_take k l
    simp only [Enc.flat, List.flatMap_cons, List.take_succ_cons] at ih ⊢
    rw [Nat.succ_mul, Nat.add_comm, List.take_add, ← e.len x, List.take_left, List.drop_left, e.len x, ih]
theorem Enc.flat_set : ∀ (i : Nat) (x : α) (l : List α), i < l.length → e.flat (l.set i x) = (e.flat l).take (i * e.sz) ++ (e.E x ++ (e.flat l).drop (i * e.sz + e.sz))
  | i, x, [], h => by simp at h
  | 0, x, y :: l, h => by
    simp only [Enc.flat, List.set_cons_zero, List.flatMap_cons, Nat.zero_mul, List.take_zero, List.nil_append, Nat.zero_add]
    rw [← e.len y, List.drop_left]
  | i + 1, x, y :: l, h => by
    have ih := Enc.flat_set i x l (by simpa using h)
    simp only [Enc.flat, List.set_cons_succ, List.flatMap_cons] at ih ⊢
    rw [ih, show (i + 1) * e.sz = e.sz + i * e.sz by rw [Nat.succ_mul]; omega, List.take_add, show e.sz + i * e.sz + e.sz = e.sz + (i * e.sz + e.sz) by omega, ← List.drop_drop (j := e.sz), ← e.len y, List.take_left, List.drop_left, e.len y, List.append_assoc]
theorem Enc.flat_replicate (n : Nat) (z : α) : e.flat (List.replicate n z) = (madeCells (e.E z).toArray (n * e.sz)).toList := by
  apply List.ext_getElem?
  intro q
  by_cases hq : q < n * e.sz
  · have hpos := e.pos
    have h1 : q / e.sz < n := (Nat.div_lt_iff_lt_mul hpos).2 hq
    have h2 : q % e.sz < e.sz := Nat.mod_lt _ hpos
    have h3 : q % e.sz < (e.E z).length := by rw [e.len]; exact h2
    have := e.flat_get (l := List.replicate n z) (i := q / e.sz) (x := z) (j := q % e.sz) (u := (e.E z)[q % e.sz]) (by simp [h1]) (List.getElem?_eq_getElem h3)
    rw [Nat.mul_comm, Nat.div_add_mod] at this
    rw [this, Array.getElem?_toList]
    simp [madeCells, hq, e.len, h2]
  · rw [List.getElem?_eq_none (by rw [e.flat_length, List.length_replicate]; omega), List.getElem?_eq_none (by rw [Array.length_toList, size_madeCells]; omega)]
def RdT (W : World) (v : Value) (l : List α) : Prop := Rd W e.sz v l.length (e.flat l)
def rowT (B : Nat) (t : TypeId) (v : Value) (l : List α) : Hold := rowI B t e.sz v l.length (e.flat l)
end
theorem RdT.cut {α : Type} {e : Enc α} {W : World} {A : Option Addr} {c : Nat} {l : List α} (a b m : Nat) (A' : Option Addr) (hab : a ≤ b) (hb : b ≤ l.length) (h : RdT e W (.slice A l.length c) l) (hm : b ≤ m) (hA : A' = A.map (·.add (a * e.sz)) ∨ (a = b ∨ a = 0 ∧ A' = A)) : RdT e W (.slice A' (b - a) (m - a)) ((l.drop a).take (b - a)) := by
  obtain ⟨A2, c2, h1, h2, h3, h3', h4⟩ := h
  injection h1 with e1 _ e3
  subst e1
  subst e3
  have hl : ((l.drop a).take (b - a)).length = b - a := by simp; omega
  refine ⟨A', m - a, by rw [hl], ?_, by omega, by rw [hl]; omega, fun hn => ?_⟩
  · rw [e.flat_length]
  · rw [hl] at hn
    obtain ⟨g, off, rfl, hg, hc⟩ := h4 (by omega)
    have key : ∀ j u, (e.flat ((l.drop a).take (b - a)))[j]? = some u → (e.flat l)[a * e.sz + j]? = some u := by
      intro j u hj
      rw [← e.flat_take, ← e.flat_drop, List.getElem?_take] at hj
      split at hj
      · rwa [List.getElem?_drop] at hj
      · cases hj
    rcases hA with rfl | hA
    · refine ⟨g, off + a * e.sz, ?_, hg, fun j u hj => ?_⟩
      · unfold Addr.add; simp only [Option.map_some]; split <;> simp_all
      · rw [Nat.add_assoc]; exact hc _ u (key j u hj)
    · rcases hA with rfl | ⟨rfl, rfl⟩
      · omega
      · refine ⟨g, off, rfl, hg, fun j u hj => hc _ u (by simpa using key j u hj)⟩

/-! ### Looking up -/
def getI {α : Type} (l : List α) (z : Int) : Option α := if 0 ≤ z then l[z.toNat]? else none
theorem getI_some {α : Type} {l : List α} {z : Int} {x : α} (h : getI l z = some x) : 0 ≤ z ∧ z < l.length ∧ l[z.toNat]? = some x := by
  unfold getI at h
  split at h
  · rename_i h0
    have := (List.getElem?_eq_some_iff.1 h).1
    exact ⟨h0, by omega, h⟩
  · cases h
def getB (s : Str) (z : Int) : Option Int := (getI s z).map fun b => (b.toNat : Int)
def cutS {α : Type} (s : List α) (a b : Int) : Option (List α) := if 0 ≤ a ∧ a ≤ b ∧ b ≤ s.length then some ((s.drop a.toNat).take (b - a).toNat) else none
theorem cutS_some {α : Type} {s r : List α} {a b : Int} (h : cutS s a b = some r) : 0 ≤ a ∧ a ≤ b ∧ b ≤ s.length ∧ r = (s.drop a.toNat).take (b.toNat - a.toNat) := by
  unfold cutS at h
  split at h
  · rename_i h0
    obtain rfl := Option.some.inj h
    exact ⟨h0.1, h0.2.1, h0.2.2, by congr 1; omega⟩
  · cases h
def catS (a b : Str) : Option Str := if a.length + b.length ≤ 9223372036854775807 then some (a ++ b) else none
def appG {α : Type} (e : Enc α) (l m : List α) : Option (List α) := if (l.length + m.length) * e.by_ ≤ 140737488355328 then some (l ++ m) else none
def setI {α : Type} (l : List α) (z : Int) (x : α) : Option (List α) := if 0 ≤ z ∧ z < l.length then some (l.set z.toNat x) else none
def mkI {α : Type} (e : Enc α) (z : α) (n : Int) : Option (List α) := if 0 ≤ n ∧ e.by_ * n.toNat ≤ 140737488355328 then some (List.replicate n.toNat z) else none

def bl : Option Addr → Nat
  | some a => a.block
  | none => 0
def of : Option Addr → Nat
  | some a => a.off
  | none => 0
/-- Element z of a slice at A, cell 'fo' of it. -/
def elp (A : Option Addr) (k : Nat) : Value := .pointer (some ⟨bl A, of A + k, none⟩)

variable {P : Program} {f : FuncId} {fn : Func} {R : Ending → World → Prop} {M : Nat → Prop} {w0 : World} {its its0 : List Hold} {k : List Item} {rs : List Value} {ops : List Oper} {i fuel : Nat} {o : Oper} {listed : Array Bool} {α : Type} {e : Enc α}
/-- A slice that can be read, in every world of which so much is known. -/
structure Src (M : Nat → Prop) (w0 : World) (its : List Hold) (e : Enc α) (A : Option Addr) (c : Nat) (l : List α) : Prop where
  out : ∀ W, St M w0 W its → RdT e W (.slice A l.length c) l
theorem s_arg {A : Option Addr} {c : Nat} {l : List α} (h : RdT e w0 (.slice A l.length c) l) : Src no w0 its e A c l := ⟨fun W S => Rd.up h S.below⟩
theorem s_own {B t : Nat} {A : Option Addr} {c : Nat} {l : List α} (j : Nat) (h : nh its j = some (rowT e B t (.slice A l.length c) l) := by rfl) : Src M w0 its e A c l := by
  rw [nh_eq] at h
  exact ⟨fun W S => .own (S.get h)⟩
theorem s_nil : Src M w0 its e none 0 [] := ⟨fun W S => ⟨none, 0, rfl, by simp [Enc.flat], by simp, by simp, fun h => by simp at h⟩⟩
/-- The address of a cut. -/
def cutA (e : Enc α) (A : Option Addr) (c a : Nat) : Option Addr := if c = a then A else A.map (·.add (a * e.sz))
theorem s_cut {A : Option Addr} {c : Nat} {l r : List α} {a b : Int} (h : cutS l a b = some r) (s : Src M w0 its e A c l) : Src M w0 its e (cutA e A c a.toNat) (c - a.toNat) r := by
  obtain ⟨h0, h1, h2, rfl⟩ := cutS_some h
  refine ⟨fun W S => ?_⟩
  have hs := s.out W S
  obtain ⟨A2, c2, e1, _, _, hc, _⟩ := id hs
  injection e1 with _ _ e3
  subst e3
  have hl : ((l.drop a.toNat).take (b.toNat - a.toNat)).length = b.toNat - a.toNat := by simp; omega
  rw [hl]
  refine RdT.cut a.toNat b.toNat c _ (by omega) (by omega) hs (by omega) ?_
  unfold cutA
  split
  · right; left; omega
  · left; rfl

theorem ti_of {t el : TypeId} {P : Program} {sz by_ : Nat} (h : (P.info? el).map (fun i => (i.size, i.bytes)) = some (sz, by_)) : ∃ ti, P.info? el = some ti ∧ ti.size = sz ∧ ti.bytes = by_ := by
  cases hi : P.info? el with
  | none => simp [hi] at h
  | some ti =>
    simp only [hi, Option.map_some, Option.some.injEq, Prod.mk.injEq] at h
    exact ⟨ti, rfl, h.1, h.2⟩
/-- The place of an element. -/
theorem y_idx {t el : TypeId} {x ix : Operand} {A : Option Addr} {c : Nat} {l : List α} {z : Int} {y : α} (hg : getI l z = some y) (s : Src M w0 its e A c l)
    (hop : o.op = .indexAddr t x ix := by rfl) (hv : ev rs x = .slice A l.length c := by kernel_rfl) (hi : ev rs ix = .int .i64 z := by kernel_rfl)
    (ht : P.underlying t = some (.slice el) := by kernel_rfl) (hs : (P.info? el).map (fun i => (i.size, i.bytes)) = some (e.sz, e.by_) := by kernel_rfl) : Yd P M w0 its o rs (elp A (z.toNat * e.sz)) := by
  refine ⟨fun W S => .inl ?_⟩
  obtain ⟨h0, h1, h2⟩ := getI_some hg
  obtain ⟨ti, hi2, hsz, _⟩ := ti_of (t := t) hs
  obtain ⟨A2, c2, e1, _, _, _, h4⟩ := s.out W S
  injection e1 with e1 _ _
  subst e1
  obtain ⟨b, off, hA, _, _⟩ := h4 (by omega)
  subst hA
  have hadd : (⟨b, off, none⟩ : Addr).add (z.toNat * e.sz) = ⟨b, off + z.toNat * e.sz, none⟩ := by unfold Addr.add; split <;> simp_all
  simp [execOp, hop, hv, hi, Instr.indexAt, asIntOf, run_underlying ht, h0, h1, run_size hi2, hsz, hadd, elp, bl, of]
theorem rdC_run {W : World} {b off : Nat} {t : TypeId} {cs : List Value} {v : Value} (hc : ∀ j u, cs[j]? = some u → W.cell? ⟨b, off + j, none⟩ = some u) (fo : Nat) (hv : rdC P t fo cs = some v) : (loadVar t ⟨b, off + fo, none⟩).run P W = .ok v W := by
  unfold rdC at hv
  cases ha : aggB P t with
  | none => simp [ha] at hv
  | some bb =>
    rw [ha] at hv
    unfold loadVar
    simp only [Sem.run_bind, run_isAgg ha, Result.andThen_ok]
    have hcell : ∀ j u, cs[fo + j]? = some u → W.cell? ((⟨b, off + fo, none⟩ : Addr).add j) = some u := by
      intro j u hu
      have hadd : (⟨b, off + fo, none⟩ : Addr).add j = ⟨b, off + fo + j, none⟩ := by unfold Addr.add; split <;> simp_all
      rw [hadd, Nat.add_assoc]
      exact hc _ _ hu
    cases bb with
    | true =>
      cases hi : P.info? t with
      | none => simp [hi] at hv
      | some ti =>
        simp only [hi] at hv
        cases hb : Nat.ble (fo + ti.size) cs.length with
        | false => simp [hb] at hv
        | true =>
          simp only [hb, cond_true, Option.some.injEq] at hv
          subst hv
          have hle : fo + ti.size ≤ cs.length := Nat.le_of_ble_eq_true hb
          have hl : ((cs.drop fo).take ti.size).length = ti.size := by simp; omega
          have := run_loadCells_list (P := P) W ⟨b, off + fo, none⟩ ((cs.drop fo).take ti.size) (fun j v hj => by
            refine hcell j v ?_
            rw [List.getElem?_take] at hj
            split at hj
            · rw [List.getElem?_drop] at hj; exact hj
            · cases hj)
          rw [hl] at this
          simp [run_size hi, this]
    | false =>
      simp only at hv
      have := hcell 0 v (by simpa using hv)
      simp only [Addr.add, if_true] at this
      simp [load, Sem.run, this]
/-- A load of (a part of) an element. -/
theorem y_el {t : TypeId} {x : Operand} {A : Option Addr} {c : Nat} {l : List α} {z : Int} {y : α} (fo : Nat) (v : Value) (hg : getI l z = some y) (s : Src M w0 its e A c l)
    (hop : o.op = .load t x := by rfl) (hp : ev rs x = elp A (z.toNat * e.sz + fo) := by kernel_rfl) (hv : rdC P t fo (e.E y) = some v := by kernel_rfl) : Yd P M w0 its o rs v := by
  refine ⟨fun W S => .inl ?_⟩
  obtain ⟨h0, h1, h2'⟩ := getI_some hg
  obtain ⟨A2, c2, e1, h2, h3, _, h4⟩ := s.out W S
  injection e1 with e1 _ _
  subst e1
  obtain ⟨b, off, hA, hb, hc⟩ := h4 (by omega)
  subst hA
  have := rdC_run (P := P) (W := W) (b := b) (off := off + z.toNat * e.sz) (cs := e.E y) (fun q u hq => by
    have := hc _ _ (e.flat_get h2' hq)
    rwa [← Nat.add_assoc] at this) fo hv
  rw [Nat.add_assoc] at this
  simp [execOp, hop, hp, Instr.loadAt, Instr.sureAddr, elp, bl, of, this]
/-- A byte of a string. -/
theorem y_byte {t : TypeId} {x ix : Operand} {s : Str} {z y : Int} (hg : getB s z = some y) (hop : o.op = .index t x ix := by rfl) (hv : ev rs x = .string (bs s) := by kernel_rfl) (hi : ev rs ix = .int .i64 z := by kernel_rfl)
    (ht : P.underlying t = some .string := by kernel_rfl) : Yd P M w0 its o rs (.int .u8 y) := by
  refine ⟨fun W S => .inl ?_⟩
  unfold getB at hg
  obtain ⟨b, hb, rfl⟩ := Option.map_eq_some_iff.1 hg
  obtain ⟨h0, h1, h2⟩ := getI_some hb
  simp [execOp, hop, hv, hi, Instr.index, asIntOf, run_underlying ht, h0, bs_get _ _ _ h2]
/-- Where a cut begins and ends. -/
def lo_ (rs : List Value) : Option Operand → Option Int
  | none => some 0
  | some y => match ev rs y with
    | .int _ z => some z
    | _ => none
def hi_ (rs : List Value) (n : Nat) : Option Operand → Option Int
  | none => some n
  | some y => match ev rs y with
    | .int _ z => some z
    | _ => none
theorem run_bounds {W : World} {b : Bool} {n c : Nat} {lo hi : Option Operand} {a z : Int} (hlo : lo_ rs lo = some a) (hhi : hi_ rs n hi = some z) (h0 : 0 ≤ a) (h1 : a ≤ z) (h2 : z ≤ n) (hc : n ≤ c) :
    (Instr.sliceBounds b n c (lo.map (ev rs)) (hi.map (ev rs)) none).run P W = .ok (a.toNat, z.toNat, c) W := by
  have hl : ∀ y : Nat, z = y → ∀ h m : Nat, (match lo.map (ev rs) with | some v => (do let l ← Instr.sliceBound v y .sliceB; pure (l, h, m)) | none => (do let l ← pure 0; pure (l, h, m)) : Sem (Nat × Nat × Nat)).run P W = .ok (a.toNat, h, m) W := by
    intro y hy h m
    cases lo with
    | none => simp only [lo_, Option.some.injEq] at hlo; subst hlo; simp
    | some x =>
      simp only [lo_] at hlo
      split at hlo
      · rename_i kd q hq
        obtain rfl := Option.some.inj hlo
        simp [hq, Instr.sliceBound, asIntOf, h0, show q ≤ (y : Int) by omega]
      · cases hlo
  cases hi with
  | none =>
    simp only [hi_, Option.some.injEq] at hhi
    subst hhi
    have := hl n rfl n c
    unfold Instr.sliceBounds
    simp only [Option.map_none, Sem.run_bind, Sem.run_pure, Result.andThen_ok, Option.isSome_none, Bool.false_eq_true, if_false, Int.toNat_natCast]
    exact this
  | some x =>
    simp only [hi_] at hhi
    split at hhi
    · rename_i kd q hq
      obtain rfl := Option.some.inj hhi
      have := hl q.toNat (by omega) q.toNat c
      unfold Instr.sliceBounds
      have hb : ∀ code, (Instr.sliceBound (.int kd q) c code).run P W = .ok q.toNat W := by
        intro code
        have g1 : 0 ≤ q := by omega
        have g2 : q ≤ (c : Int) := by omega
        simp [Instr.sliceBound, asIntOf, g1, g2]
      simp only [Option.map_some, Option.map_none, hq, Sem.run_bind, Sem.run_pure, Result.andThen_ok, Option.isSome_none, Bool.false_eq_true, if_false, hb]
      exact this
    · cases hhi
/-- A cut of a string. -/
theorem y_cut {t : TypeId} {x : Operand} {lo hi : Option Operand} {s r : Str} {a b : Int} (h : cutS s a b = some r)
    (hop : o.op = .slice t x lo hi none := by rfl) (hv : ev rs x = .string (bs s) := by kernel_rfl) (hlo : lo_ rs lo = some a := by kernel_rfl) (hhi : hi_ rs s.length hi = some b := by kernel_rfl)
    (ht : P.underlying t = some .string := by kernel_rfl) : Yd P M w0 its o rs (.string (bs r)) := by
  refine ⟨fun W S => .inl ?_⟩
  obtain ⟨h0, h1, h2, rfl⟩ := cutS_some h
  have := run_bounds (P := P) (W := W) (b := false) hlo hhi h0 h1 h2 (Nat.le_refl _)
  have hsz : (bs s).size = s.length := rfl
  simp [execOp, hop, hv, Instr.sliceAt, Instr.slice, run_underlying ht, hsz, this, bs_cut]
/-- A cut of a slice. -/
theorem y_cutl {t el : TypeId} {x : Operand} {lo hi : Option Operand} {A : Option Addr} {c : Nat} {l r : List α} {a b : Int} (h : cutS l a b = some r) (s : Src M w0 its e A c l)
    (hop : o.op = .slice t x lo hi none := by rfl) (hv : ev rs x = .slice A l.length c := by kernel_rfl) (hlo : lo_ rs lo = some a := by kernel_rfl) (hhi : hi_ rs l.length hi = some b := by kernel_rfl)
    (ht : P.underlying t = some (.slice el) := by kernel_rfl) (hs : (P.info? el).map (fun i => (i.size, i.bytes)) = some (e.sz, e.by_) := by kernel_rfl) : Yd P M w0 its o rs (.slice (cutA e A c a.toNat) r.length (c - a.toNat)) := by
  refine ⟨fun W S => .inl ?_⟩
  obtain ⟨h0, h1, h2, rfl⟩ := cutS_some h
  obtain ⟨ti, hi2, hsz, _⟩ := ti_of (t := t) hs
  obtain ⟨A2, c2, e1, _, _, hc, _⟩ := s.out W S
  injection e1 with e1 _ e3
  subst e3
  have := run_bounds (P := P) (W := W) (b := true) hlo hhi h0 h1 h2 hc
  have hl : ((l.drop a.toNat).take (b.toNat - a.toNat)).length = b.toNat - a.toNat := by simp; omega
  rw [hl]
  simp only [execOp, hop, hv, Instr.sliceAt, Option.map_none]
  unfold Instr.slice
  simp only [Sem.run_bind, run_underlying ht, Result.andThen_ok, this, run_size hi2, hsz, Sem.run_pure, cutA]
/-- Two strings, one behind the other. -/
theorem y_cat {t u : TypeId} {x y : Operand} {s r q : Str} (h : catS s r = some q) (hop : o.op = .binOp .add t x y u := by rfl) (hx : ev rs x = .string (bs s) := by kernel_rfl) (hy : ev rs y = .string (bs r) := by kernel_rfl) : Yd P M w0 its o rs (.string (bs q)) := by
  refine ⟨fun W S => .inl ?_⟩
  unfold catS at h
  split at h
  · rename_i hl
    obtain rfl := Option.some.inj h
    have h' : ¬ (IntKind.i64.max < (s.length : Int) + (r.length : Int)) := by
      have : IntKind.i64.max = 9223372036854775807 := by decide
      rw [this]
      omega
    simp [execOp, hop, hx, hy, eqGuard, binOp, Op.stringOp, bs_size, h', bs_app]
    omega
  · cases h
end Go.Proofs.XC
namespace Go.Proofs.XC
open Go Go.RowKit
variable {P : Program} {f : FuncId} {fn : Func} {R : Ending → World → Prop} {M : Nat → Prop} {w0 : World} {its its0 : List Hold} {k : List Item} {rs : List Value} {ops : List Oper} {i fuel : Nat} {o : Oper} {listed : Array Bool} {α : Type} {e : Enc α}
variable {K : List Hold → List Value → Prop}

/-! ### Rows of the call's own -/
theorem rowT_good (B : Nat) (t : TypeId) (v : Value) (l : List α) : (rowT e B t v l).good := row_good _ _ _ _ _ _
theorem Src.row {W : World} {B t : Nat} {A : Option Addr} {c : Nat} {l : List α} (h : W.ownsRow B t e.sz (.slice A l.length c) l.length (e.flat l)) : (rowT e B t (.slice A l.length c) l).F W := h
/-- A slice literal. -/
theorem e_lit {t el : TypeId} {len : Nat} {parts : Array (Nat × Operand)} {d : Option Tmp} (vs : List Value) (l : List α)
    (h : ∀ A c, K (its ++ [rowT e w0.heap.size el (.slice A l.length c) l]) (pt rs d (.slice A l.length c)))
    (hop : o.op = .buildSlice t len parts := by rfl) (hd : o.dst = d := by rfl) (ht : P.underlying t = some (.slice el) := by kernel_rfl)
    (hs : (P.info? el).map (fun i => (i.size, i.bytes)) = some (e.sz, e.by_) := by kernel_rfl) (hz : ((P.info? el).bind (·.zero)).isSome = true := by kernel_rfl)
    (hl : l.length = len := by rfl) (hp : parts.toList.map (fun p => (p.1, ev rs p.2)) = (vs.zipIdx 0).map (fun x => (x.2, x.1)) := by kernel_rfl) (hc : vs.map (fun v => v.cells.toList) = l.map e.E := by kernel_rfl)
    (hsm : Nat.ble (len * e.sz) 16777216 = true := by kernel_rfl) : Ex P M w0 its o rs K := by
  refine .value fun W S => ?_
  obtain ⟨ti, hi, hsz, _⟩ := ti_of (t := t) hs
  have hz' : ∃ z, ti.zero = some z := Option.isSome_iff_exists.1 (by simpa [hi] using hz)
  obtain ⟨z, hz'⟩ := hz'
  have hsm' := Nat.le_of_ble_eq_true hsm
  have hlv : vs.length = len := by
    have := congrArg List.length hc
    simp only [List.length_map] at this
    omega
  have hcs : ∀ v ∈ vs, v.cells.size = e.sz := by
    intro v hv
    have : v.cells.toList ∈ l.map e.E := by rw [← hc]; exact List.mem_map_of_mem hv
    obtain ⟨y, _, hy⟩ := List.mem_map.1 this
    rw [← Array.length_toList, ← hy, e.len]
  have hflat : (vs.flatMap fun v => v.cells.toList) = e.flat l := by
    unfold Enc.flat
    rw [List.flatMap_def, List.flatMap_def, hc]
  have hpa : (parts.map fun p => (p.1, ev rs p.2)).toList = (vs.zipIdx 0).map (fun x => (x.2, x.1)) := by rw [Array.toList_map]; exact hp
  have hrun : (Instr.buildSlice t len (parts.map fun p => (p.1, ev rs p.2))).run P W = .ok (.slice (some ⟨W.heap.size, 0, none⟩) len len) (W.alloc (.cells (e.flat l).toArray el)) := by
    by_cases h0 : len = 0
    · have hv0 : vs = [] := List.eq_nil_of_length_eq_zero (by omega)
      have hl0 : l = [] := List.eq_nil_of_length_eq_zero (by omega)
      subst hv0
      subst hl0
      have hp0 : parts.toList.map (fun p => (p.1, ev rs p.2)) = [] := by rw [hp]; rfl
      simp [Instr.buildSlice, run_underlying ht, run_size hi, h0, hp0, Instr.fill, newRow, newObj, Sem.run, Enc.flat, Array.range_zero']
    · have hpos : ¬ len * ti.size = 0 := by
        rw [hsz]
        intro h
        rcases Nat.mul_eq_zero.1 h with h | h
        · exact h0 h
        · have := e.pos; omega
      refine run_buildSlice W t el len _ _ ti z ht hi hz' (by rw [hsz]; omega) hpos ?_
      rw [hpa, hsz, ← hflat]
      exact Great.fill_whole e.pos vs _ hcs (by simp [hlv])
  refine ⟨.slice (some ⟨W.heap.size, 0, none⟩) l.length l.length, W.alloc (.cells (e.flat l).toArray el), its ++ [rowT e w0.heap.size el (.slice (some ⟨W.heap.size, 0, none⟩) l.length l.length) l], ?_, ?_, by rw [hd]; exact h _ _⟩
  · have he : (Array.map (fun x => match x with | (i, x) => (i, ev rs x)) parts) = parts.map fun p => (p.1, ev rs p.2) := by rfl
    simp only [execOp, hop]
    rw [Sem.run_bind, he, hrun, hl]
    simp
  · refine S.add (below_of_alloc W _) (rowT_good _ _ _ _) ?_ ?_
    · have := World.ownsRow_lit (e := el) (size := e.sz) W (e.flat l).toArray l.length S.size (by rw [hl]; simp only [maxLen]; have h2 : len ≤ len * e.sz := Nat.le_mul_of_pos_right _ e.pos; omega) (by simp [e.flat_length])
      simpa [rowT, rowI] using this
    · intro k hk
      have hk' : (Value.slice (some ⟨W.heap.size, 0, none⟩) l.length l.length).ownBlock = some k := hk
      simp only [Value.ownBlock, Option.some.injEq] at hk'
      subst hk'
      exact ⟨Nat.le_refl _, by simp⟩
/-- make, with all elements zero. -/
theorem e_make {t el : TypeId} {x y : Operand} {d : Option Tmp} {n : Int} {z : α} {l : List α} (hm : mkI e z n = some l)
    (h : ∀ A c, K (its ++ [rowT e w0.heap.size el (.slice A l.length c) l]) (pt rs d (.slice A l.length c)))
    (hop : o.op = .makeSlice t x y := by rfl) (hd : o.dst = d := by rfl) (hx : ev rs x = .int .i64 n := by kernel_rfl) (hy : ev rs y = .int .i64 n := by kernel_rfl) (ht : P.underlying t = some (.slice el) := by kernel_rfl)
    (hs : (P.info? el).map (fun i => (i.size, i.bytes)) = some (e.sz, e.by_) := by kernel_rfl) (hz : ((P.info? el).bind (·.zero)).map (·.cells.toList) = some (e.E z) := by kernel_rfl) (hb : Nat.ble 1 e.by_ = true := by kernel_rfl) : Ex P M w0 its o rs K := by
  refine .value fun W S => ?_
  unfold mkI at hm
  split at hm
  case isFalse => cases hm
  rename_i hg
  obtain ⟨h0, hby⟩ := hg
  obtain rfl := Option.some.inj hm
  obtain ⟨ti, hi, hsz, hbb⟩ := ti_of (t := t) hs
  have hz' : ∃ zv, ti.zero = some zv ∧ zv.cells.toList = e.E z := by
    cases hzz : ti.zero with
    | none => simp [hi, hzz] at hz
    | some zv => exact ⟨zv, rfl, by simpa [hi, hzz] using hz⟩
  obtain ⟨zv, hz', hzc⟩ := hz'
  have hb' := Nat.le_of_ble_eq_true hb
  have hle : n.toNat ≤ 140737488355328 := Nat.le_trans (Nat.le_mul_of_pos_left _ hb') hby
  obtain ⟨W', hr, hown, hgr⟩ := run_make_full (P := P) (w := W) w0.heap.size t el ti zv e.sz ht hi hz' hsz .i64 .i64 n.toNat (by rw [hbb]; omega) (by simp only [maxLen]; omega) S.size
  have hn : ((n.toNat : Nat) : Int) = n := by omega
  rw [hn] at hr
  have hl : (List.replicate n.toNat z).length = n.toNat := by simp
  have hzz : zv.cells = (e.E z).toArray := by rw [← hzc, Array.toArray_toList]
  refine ⟨.slice (some ⟨W.heap.size, 0, none⟩) (List.replicate n.toNat z).length n.toNat, W', its ++ [rowT e w0.heap.size el (.slice (some ⟨W.heap.size, 0, none⟩) (List.replicate n.toNat z).length n.toNat) (List.replicate n.toNat z)], ?_, ?_, by rw [hd]; exact h _ _⟩
  · simp only [execOp, hop, hx, hy]
    rw [Sem.run_bind, hr, hl]
    simp
  · refine S.add ⟨hgr.os, hgr.tape, hgr.output, hgr.size, fun k hk => hgr.block k hk (by simp)⟩ (rowT_good _ _ _ _) ?_ ?_
    · show W'.ownsRow _ _ _ _ _ _
      rw [e.flat_replicate, hl, ← hzz]
      exact hown
    · intro k hk
      have hk' : (Value.slice (some ⟨W.heap.size, 0, none⟩) (List.replicate n.toNat z).length n.toNat).ownBlock = some k := hk
      simp only [Value.ownBlock, Option.some.injEq] at hk'
      subst hk'
      exact ⟨Nat.le_refl _, (hown.lt W.heap.size rfl).2⟩
/-- nil is a row. -/
theorem o_nil (e : Enc α) (t : TypeId) (h : OS P f R M w0 (its ++ [rowT e w0.heap.size t (.slice none 0 0) []]) k ops i rs) : OS P f R M w0 its k ops i rs := by
  refine ⟨fun W S => h.out W (S.add (Below.refl _ _) (rowT_good _ _ _ _) (World.ownsRow_nil _ _ _ _) ?_)⟩
  intro k hk
  have hk' : (Value.slice none 0 0).ownBlock = some k := hk
  cases hk'
theorem c_nil (e : Enc α) (t : TypeId) (h : GS P f R M w0 (its ++ [rowT e w0.heap.size t (.slice none 0 0) []]) k rs) : GS P f R M w0 its k rs := by
  refine ⟨fun W S => h.out W (S.add (Below.refl _ _) (rowT_good _ _ _ _) (World.ownsRow_nil _ _ _ _) ?_)⟩
  intro k hk
  have hk' : (Value.slice none 0 0).ownBlock = some k := hk
  cases hk'
theorem run_append_zero {W : World} {B t ty el size n : Nat} {ti : TypeInfo} {v : Value} {xs : List Value} (ht : P.underlying t = some (.slice el)) (hi : P.info? el = some ti) (hsz : ti.size = size)
    (hown : W.ownsRow B el size v n xs) (c : Nat) : (Builtin.append_ #[t, t] ty #[v, .slice none 0 c]).run P W = .ok v W := by
  rcases hown.2 with ⟨rfl, rfl⟩ | ⟨g, cap, cur, rfl, _, _, hnc, _⟩
  · simp [Builtin.append_, run_underlying ht, sizeOf, typeInfo, hi, Builtin.lenOf, Builtin.firstCells]
  · simp [Builtin.append_, run_underlying ht, sizeOf, typeInfo, hi, Builtin.lenOf, Builtin.firstCells, hnc, storeCells]
/-- append to a row of the call's own. -/
theorem e_app {t el : TypeId} {cl : Call} {x y : Operand} {d : Option Tmp} {A A2 : Option Addr} {c c2 : Nat} {l m q : List α} (j : Nat) (hq : appG e l m = some q) (s : Src M w0 its e A2 c2 m)
    (h : ∀ A' c', K (sh its j (rowT e w0.heap.size el (.slice A' q.length c') q)) (pt rs d (.slice A' q.length c')))
    (hj : nh its j = some (rowT e w0.heap.size el (.slice A l.length c) l) := by rfl)
    (hop : o.op = .call cl := by rfl) (hcl : cl.callee = .builtin .append := by rfl) (ha : cl.args = #[x, y] := by rfl) (hat : cl.argTypes = #[t, t] := by rfl) (hd : o.dst = d := by rfl)
    (hx : ev rs x = .slice A l.length c := by kernel_rfl) (hy : ev rs y = .slice A2 m.length c2 := by kernel_rfl) (ht : P.underlying t = some (.slice el) := by kernel_rfl)
    (hs : (P.info? el).map (fun i => (i.size, i.bytes)) = some (e.sz, e.by_) := by kernel_rfl) (hz : ((P.info? el).bind (·.zero)).map (·.cells.size) = some e.sz := by kernel_rfl) (hb : Nat.ble 1 e.by_ = true := by kernel_rfl) : Ex P M w0 its o rs K := by
  refine .value fun W S => ?_
  unfold appG at hq
  split at hq
  case isFalse => cases hq
  rename_i hby
  obtain rfl := Option.some.inj hq
  obtain ⟨ti, hi, hsz, hbb⟩ := ti_of (t := t) hs
  have hz' : ∃ zv, ti.zero = some zv ∧ zv.cells.size = e.sz := by
    cases hzz : ti.zero with
    | none => simp [hi, hzz] at hz
    | some zv => exact ⟨zv, rfl, by simpa [hi, hzz] using hz⟩
  obtain ⟨zv, hz', hzc⟩ := hz'
  rw [nh_eq] at hj
  have hown : W.ownsRow w0.heap.size el e.sz (.slice A l.length c) l.length (e.flat l) := S.get hj
  have hb' := Nat.le_of_ble_eq_true hb
  have hle : l.length + m.length ≤ 140737488355328 := Nat.le_trans (Nat.le_mul_of_pos_right _ hb') hby
  obtain ⟨A3, c3, e1, _, _, _, h4⟩ := s.out W S
  injection e1 with e1 _ e3
  subst e1
  subst e3
  have key : ∃ v' w', (Builtin.append_ #[t, t] o.type #[.slice A l.length c, .slice A2 m.length c2]).run P W = .ok v' w' ∧ w'.ownsRow w0.heap.size el e.sz v' (l.length + m.length) (e.flat l ++ e.flat m) ∧ W.grownBy w' (Value.slice A l.length c).ownBlock ∧ (v'.ownBlock = (Value.slice A l.length c).ownBlock ∨ v'.ownBlock = some W.heap.size) := by
    by_cases hm0 : m.length = 0
    · have hm : m = [] := List.eq_nil_of_length_eq_zero hm0
      subst hm
      cases A2 with
      | none =>
        refine ⟨.slice A l.length c, W, run_append_zero ht hi hsz hown c2, ?_, ⟨rfl, rfl, rfl, Nat.le_refl _, fun _ _ _ => rfl⟩, .inl rfl⟩
        simpa [Enc.flat] using hown
      | some ad =>
        obtain ⟨v', w', h1, h2, h3, _, h5⟩ := run_append_own_at (P := P) W w0.heap.size t o.type el ti zv e.sz e.by_ ht hi hz' hsz hbb hzc e.pos _ l.length (e.flat l) hown ad 0 c2 [] (by simp) (by simp) (by simp) (by simp only [maxLen]; simp at hle; omega) (by simpa using hby) S.size
        exact ⟨v', w', h1, by simpa [Enc.flat] using h2, h3, h5⟩
    · obtain ⟨b, off, rfl, hbk, hc⟩ := h4 (by omega)
      obtain ⟨v', w', h1, h2, h3, _, h5⟩ := run_append_own_at (P := P) W w0.heap.size t o.type el ti zv e.sz e.by_ ht hi hz' hsz hbb hzc e.pos _ l.length (e.flat l) hown ⟨b, off, none⟩ m.length c2 (e.flat m) (e.flat_length m) (fun j u hj => by
        have hadd : (⟨b, off, none⟩ : Addr).add j = ⟨b, off + j, none⟩ := by unfold Addr.add; split <;> simp_all
        rw [hadd]
        exact hc j u hj) (e.flat_one m) (by simp only [maxLen]; omega) hby S.size
      exact ⟨v', w', h1, h2, h3, h5⟩
  obtain ⟨v', W', hrun, hown', hgr, hbl⟩ := key
  obtain ⟨A', c', rfl⟩ := own_form hown'
  have hql : (l ++ m).length = l.length + m.length := List.length_append
  have he : cl = { callee := .builtin .append, args := #[x, y], argTypes := #[t, t] } := by
    cases cl
    simp_all
  refine ⟨.slice A' (l ++ m).length c', W', sh its j (rowT e w0.heap.size el (.slice A' (l ++ m).length c') (l ++ m)), ?_, ?_, by rw [hd]; exact h _ _⟩
  · subst he
    simp only [execOp, hop, resolve, invoke, builtin, Sem.run_bind, Sem.run_pure, Result.andThen_ok, List.map_toArray, List.map_cons, List.map_nil, hx, hy, hrun, hql]
  · rw [sh_eq]
    refine S.upd hj hgr.os hgr.tape hgr.output hgr.size (fun k hk hne => hgr.block k hk (fun e1 => hne ?_)) (rowT_good _ _ _ _) ?_ ?_
    · exact e1.symm
    · show W'.ownsRow _ _ _ _ _ _
      rw [hql, e.flat_app]
      exact hown'
    · intro k hk
      have hk' : (Value.slice A' (l.length + m.length) c').ownBlock = some k := by rw [← hql]; exact hk
      refine ⟨?_, (hown'.lt k hk').2⟩
      rcases hbl with h1 | h1
      · left
        show (Value.slice A l.length c).ownBlock = some k
        rw [← h1, hk']
      · right
        rw [hk'] at h1
        injection h1 with h1
        omega
/-- Cells written. -/
def updL (q : Nat) (vs cs : List Value) : List Value := cs.take q ++ (vs ++ cs.drop (q + vs.length))
theorem updL_here (fo : Nat) (vs a b : List Value) (h : fo + vs.length ≤ a.length) : updL fo vs (a ++ b) = updL fo vs a ++ b := by
  unfold updL
  rw [List.take_append_of_le_length (by omega), List.drop_append_of_le_length (by omega)]
  simp
theorem updL_there (q : Nat) (vs a b : List Value) : updL (a.length + q) vs (a ++ b) = a ++ updL q vs b := by
  unfold updL
  rw [List.take_length_add_append, Nat.add_assoc, List.drop_length_add_append]
  simp
theorem Enc.flat_upd (fo : Nat) (vs : List Value) (y y' : α) (hle : fo + vs.length ≤ e.sz) (hy : e.E y' = updL fo vs (e.E y)) : ∀ (l : List α) (z : Nat), l[z]? = some y → e.flat (l.set z y') = updL (z * e.sz + fo) vs (e.flat l)
  | [], z, h => by simp at h
  | x :: l, 0, h => by
    simp only [List.getElem?_cons_zero, Option.some.injEq] at h
    subst h
    simp only [Enc.flat, List.set_cons_zero, List.flatMap_cons, Nat.zero_mul, Nat.zero_add]
    rw [updL_here _ _ _ _ (by rw [e.len]; exact hle), hy]
  | x :: l, z + 1, h => by
    have ih := Enc.flat_upd fo vs y y' hle hy l z (by simpa using h)
    simp only [Enc.flat, List.set_cons_succ, List.flatMap_cons] at ih ⊢
    rw [ih, show (z + 1) * e.sz + fo = (e.E x).length + (z * e.sz + fo) by rw [e.len, Nat.succ_mul]; omega, updL_there]
theorem take_updL (q n : Nat) (vs cs : List Value) (h : q + vs.length ≤ n) (hn : n ≤ cs.length) : (updL q vs cs).take n = updL q vs (cs.take n) := by
  unfold updL
  rw [List.take_append, List.take_append, List.take_take, List.length_take, List.take_take, List.drop_take]
  congr 1
  · congr 1; omega
  · rw [List.take_of_length_le (l := vs) (by omega)]
    congr 1
    congr 1
    omega
/-- A store into (a part of) an element of a row of the call's own. -/
theorem e_stel {t el : TypeId} {x y : Operand} {A : Option Addr} {c : Nat} {l : List α} {z : Int} {a b : α} (j fo : Nat) (vs : List Value) (hg : getI l z = some a) (hb : e.E b = updL fo vs (e.E a))
    (h : K (sh its j (rowT e w0.heap.size el (.slice A (l.set z.toNat b).length c) (l.set z.toNat b))) rs)
    (hj : nh its j = some (rowT e w0.heap.size el (.slice A l.length c) l) := by rfl)
    (hop : o.op = .store t x y := by rfl) (hd : o.dst = none := by rfl) (hp : ev rs x = elp A (z.toNat * e.sz + fo) := by kernel_rfl) (hv : (ev rs y).cells.toList = vs := by kernel_rfl)
    (hn : (P.info? t).map (·.size) = some vs.length := by kernel_rfl) (h1 : vs.all (·.oneCell') = true := by kernel_rfl) (hle : Nat.ble (fo + vs.length) e.sz = true := by kernel_rfl) : Ex P M w0 its o rs K := by
  refine .skip fun W S => ?_
  rw [nh_eq] at hj
  have hown : W.ownsRow w0.heap.size el e.sz (.slice A l.length c) l.length (e.flat l) := S.get hj
  obtain ⟨h0, hz1, hz2⟩ := getI_some hg
  have hle' := Nat.le_of_ble_eq_true hle
  have hlt : z.toNat < l.length := by omega
  have hfit : z.toNat * e.sz + fo + vs.length ≤ l.length * e.sz := by
    have h3 : (z.toNat + 1) * e.sz ≤ l.length * e.sz := Nat.mul_le_mul_right _ hlt
    rw [Nat.succ_mul] at h3
    omega
  rcases hown.2 with ⟨_, h2⟩ | ⟨g, cap, cur, h2, hbg, hh, hnc, hcm, hcs, htk⟩
  · omega
  injection h2 with h2 _ h3
  subst h2
  subst h3
  subst hv
  generalize hvv : (ev rs y).cells.toList = vs at *
  have hcl : l.length * e.sz ≤ cur.toList.length := by
    have hcz : cur.toList.length = cur.size := Array.length_toList
    rw [hcz, hcs]
    exact Nat.mul_le_mul_right _ hnc
  have hcz : cur.toList.length = cur.size := Array.length_toList
  have hrun : (storeVar t ⟨g, z.toNat * e.sz + fo, none⟩ (ev rs y)).run P W = .ok () (W.setRow g (updL (z.toNat * e.sz + fo) vs cur.toList).toArray) := by
    have := run_storeVar_box (P := P) (W := W) (g := g) (off := z.toNat * e.sz + fo) (t := t) (T := el) (cs := cur.toList) (v := ev rs y) (by simpa using hh) (by rw [hvv]; exact hn) (by rw [hvv]; exact h1) (by rw [hvv]; omega)
    rw [hvv] at this
    rw [this]
    unfold updL
    simp
  have hset : (l.set z.toNat b).length = l.length := List.length_set
  refine ⟨W.setRow g (updL (z.toNat * e.sz + fo) vs cur.toList).toArray, _, ?_, ?_, by rw [hd]; exact h⟩
  · simp only [execOp, hop, hp, Instr.storeAt, elp, bl, of, Nat.zero_add]
    simp [Instr.sureAddr, hrun]
  · rw [sh_eq]
    refine S.upd hj rfl rfl rfl (by simp) (fun k hk hne => setRow_other W g k _ (fun e1 => hne ?_)) (rowT_good _ _ _ _) ?_ ?_
    · subst e1; rfl
    · show World.ownsRow _ _ _ _ _ _ _
      refine ⟨by rw [e.flat_length], .inr ⟨g, c, _, by rw [hset], hbg, setRow_heap W g cur _ el (0, 0) hh, by rw [hset]; exact hnc, hcm, ?_, ?_⟩⟩
      · unfold updL
        rw [List.size_toArray, List.length_append, List.length_append, List.length_take, List.length_drop, hcz]
        have h5 : l.length * e.sz ≤ cur.size := by rw [← hcz]; exact hcl
        rw [Nat.min_eq_left (by omega)]
        omega
      · rw [hset, List.toList_toArray, take_updL _ _ _ _ (by omega) hcl, htk, e.flat_upd fo vs a b hle' hb l z.toNat hz2]
    · intro k hk
      have hk' : (Value.slice (some ⟨g, 0, none⟩) (l.set z.toNat b).length c).ownBlock = some k := hk
      simp only [Value.ownBlock, Option.some.injEq] at hk'
      subst hk'
      exact ⟨.inl rfl, by simpa using (S.own hj g rfl).2⟩
end Go.Proofs.XC
namespace Go.Proofs.XC
open Go Go.RowKit

/-! ### What is reckoned, and how the walk goes along -/
def H {α : Type} (e : Option α) (K : α → Prop) : Prop := ∃ o, e = some o ∧ K o
def Kk {σ ρ : Type} (A : σ → Prop) (B : ρ → Prop) : σ ⊕ ρ → Prop
  | .inl s => A s
  | .inr r => B r
def orEl {ρ σ β : Type} (e : Option (ρ ⊕ σ)) (G : ρ → Option β) (F : σ → Option β) : Option β :=
  e.bind fun o => match o with
    | .inl r => G r
    | .inr s => F s
def loopM {σ ρ : Type} (body : σ → Option (σ ⊕ ρ)) : Nat → σ → Option ρ
  | 0, _ => none
  | n + 1, s => (body s).bind fun o => match o with
    | .inl s' => loopM body n s'
    | .inr r => some r
def rangeM {α σ ρ : Type} (body : Int → α → σ → Option (σ ⊕ ρ)) (fin : σ → Option ρ) : List α → Nat → σ → Option ρ
  | [], _, s => fin s
  | x :: l, j, s => (body j x s).bind fun o => match o with
    | .inl s' => rangeM body fin l (j + 1) s'
    | .inr r => some r
section
variable {α β σ ρ : Type} {e a b : Option α} {c : Bool} {K : β → Prop} {F : α → Option β}
theorem H.mk {o : α} (h : e = some o) : H e (fun x => x = o) := ⟨o, h, rfl⟩
theorem H.bnd (h : H (e.bind F) K) : H e (fun v => H (F v) K) := by
  obtain ⟨o, h1, h2⟩ := h
  obtain ⟨v, h3, h4⟩ := Option.bind_eq_some_iff.1 h1
  exact ⟨v, h3, o, h4, h2⟩
theorem H.call (h : H (e.bind F) K) : ∃ v, e = some v ∧ H (F v) K := h.bnd
theorem H.t {K : α → Prop} (hc : c = true) (h : H (bif c then a else b) K) : H a K := by subst hc; exact h
theorem H.f {K : α → Prop} (hc : c = false) (h : H (bif c then a else b) K) : H b K := by subst hc; exact h
theorem H.done {v : β} (h : H (some v) K) : K v := by
  obtain ⟨o, h1, h2⟩ := h
  obtain rfl := Option.some.inj h1
  exact h2
theorem H.inl {A : σ → Prop} {B : ρ → Prop} {s : σ} (h : H (some (.inl s)) (Kk A B)) : A s := h.done
theorem H.inr {A : σ → Prop} {B : ρ → Prop} {r : ρ} (h : H (some (.inr r)) (Kk A B)) : B r := h.done
theorem H.or {e : Option (ρ ⊕ σ)} {G : ρ → Option β} {F : σ → Option β} (h : H (orEl e G F) K) : H e (Kk (fun r => H (G r) K) (fun s => H (F s) K)) := by
  obtain ⟨o, h1, h2⟩ := H.bnd h
  refine ⟨o, h1, ?_⟩
  cases o <;> exact h2
end

variable {P : Program} {f : FuncId} {fn : Func} {R : Ending → World → Prop} {M : Nat → Prop} {w0 : World} {its its0 : List Hold} {k k0 k' : List Item} {rs : List Value} {ops : List Oper} {i fuel : Nat} {o : Oper} {listed : Array Bool} {α : Type} {e : Enc α}
/-- A loop. -/
theorem loopR {σ ρ X : Type} {body : σ → Option (σ ⊕ ρ)} {n : Nat} {K : ρ → Prop} {c : Code} (pr : X → σ) (It : X → List Hold) (Rs : X → (Nat → Value) → List Value) (x0 : X)
    (h : H (loopM body n (pr x0)) K) (e1 : its.take (It x0).length = It x0) (e2 : rs = Rs x0 (gt rs))
    (step : ∀ x u, H (body (pr x)) (Kk (fun s' => ∀ y its' rs', pr y = s' → its'.take (It y).length = It y → rs' = Rs y (gt rs') → GS P f R M w0 its' (.inLoop c :: k) rs') K) → GS P f R M w0 (It x) (.code c :: .inLoop c :: k) (Rs x u)) :
    GS P f R M w0 its (.code (.loop c) :: k) rs := by
  have key : ∀ (n : Nat) (x : X) (u : Nat → Value), H (loopM body n (pr x)) K → GS P f R M w0 (It x) (.code c :: .inLoop c :: k) (Rs x u) := by
    intro n
    induction n with
    | zero =>
      intro x u h
      obtain ⟨o, h1, _⟩ := h
      cases h1
    | succ n ih =>
      intro x u h
      refine step x u ?_
      obtain ⟨o, h1, h2⟩ := H.bnd h
      refine ⟨o, h1, ?_⟩
      cases o with
      | inl s' =>
        intro y its' rs' hy e1 e2
        refine c_inl (keep _ e1 ?_)
        rw [e2]
        exact ih y (gt rs') (by rw [hy]; exact h2)
      | inr r =>
        have h3 : H (some r) K := h2
        exact h3.done
  refine ⟨fun W S => .loop ?_⟩
  have := (key n x0 (gt rs) h).out W (by rw [← e1]; exact S.take _)
  rw [e2]
  exact this
theorem Src.len {W : World} {A : Option Addr} {c : Nat} {l : List α} (s : Src M w0 its e A c l) (S : St M w0 W its) : l.length ≤ 9223372036854775807 := by
  obtain ⟨_, _, _, _, h, _⟩ := s.out W S
  exact h
/-- A range over a slice: its list L; register by register 'Rs j x u': j rounds are done. -/
theorem rangeR {σ ρ X : Type} {body : Int → α → σ → Option (σ ⊕ ρ)} {fin : σ → Option ρ} {L : List α} {K : ρ → Prop} {c : Code} {A : Option Addr} {cp : Nat} (s : Src M w0 its e A cp L) (pr : X → σ) (It : X → List Hold) (Rs : Nat → X → (Nat → Value) → List Value) (x0 : X)
    (h : H (rangeM body fin L 0 (pr x0)) K) (e1 : its.take (It x0).length = It x0) (e2 : rs = Rs 0 x0 (gt rs))
    (step : ∀ (j : Nat) x u a, decide ((j : Int) < (L.length : Int)) = true → getI L (j : Int) = some a → IntKind.i64.wrap ((j : Int) + 1) = ((j + 1 : Nat) : Int) →
      H (body j a (pr x)) (Kk (fun s' => ∀ y its' rs', pr y = s' → its'.take (It y).length = It y → rs' = Rs (j + 1) y (gt rs') → GS P f R M w0 its' (.inLoop c :: k) rs') K) → GS P f R M w0 (It x) (.code c :: .inLoop c :: k) (Rs j x u))
    (last : ∀ x u, decide ((L.length : Int) < (L.length : Int)) = false → H (fin (pr x)) K → GS P f R M w0 (It x) (.code c :: .inLoop c :: k) (Rs L.length x u)) :
    GS P f R M w0 its (.code (.loop c) :: k) rs := by
  refine ⟨fun W S => .loop ?_⟩
  have hL : L.length ≤ 9223372036854775807 := s.len S
  have key : ∀ (l : List α) (j : Nat) (x : X) (u : Nat → Value), L.drop j = l → j ≤ L.length → H (rangeM body fin l j (pr x)) K → GS P f R M w0 (It x) (.code c :: .inLoop c :: k) (Rs j x u) := by
    intro l
    induction l with
    | nil =>
      intro j x u hd hj h
      have : L.length ≤ j := List.drop_eq_nil_iff.1 hd
      have hjl : j = L.length := by omega
      subst hjl
      exact last x u (by simp) h
    | cons a l ih =>
      intro j x u hd hj h
      have hlt : j < L.length := by
        rcases Nat.lt_or_ge j L.length with h1 | h1
        · exact h1
        · rw [List.drop_eq_nil_of_le h1] at hd; cases hd
      have hget : L[j]? = some a := by
        have := congrArg (fun l => l[0]?) hd
        simpa using this
      have hd' : L.drop (j + 1) = l := by
        rw [← List.drop_drop (i := 1) (j := j), hd]
        rfl
      refine step j x u a (by simpa using hlt) ?_ ?_ ?_
      · unfold getI
        rw [if_pos (by omega)]
        simpa using hget
      · rw [IntKind.wrap_i64]
        omega
      · obtain ⟨o, h1, h2⟩ := H.bnd h
        refine ⟨o, h1, ?_⟩
        cases o with
        | inl s' =>
          intro y its' rs' hy e1 e2
          refine c_inl (keep _ e1 ?_)
          rw [e2]
          exact ih (j + 1) y (gt rs') hd' (by omega) (by rw [hy]; exact h2)
        | inr r =>
        have h3 : H (some r) K := h2
        exact h3.done
  have := (key L 0 x0 (gt rs) rfl (Nat.zero_le _) h).out W (by rw [← e1]; exact S.take _)
  rw [e2]
  exact this
/-- Several ways meet. -/
theorem joinR {σ X : Type} {K' : σ → Prop} (pr : X → σ) (It : X → List Hold) (Rs : X → (Nat → Value) → List Value)
    (first : (∀ y its' rs', K' (pr y) → its'.take (It y).length = It y → rs' = Rs y (gt rs') → GS P f R M w0 its' k' rs') → GS P f R M w0 its k0 rs)
    (rest : ∀ x u, K' (pr x) → GS P f R M w0 (It x) k' (Rs x u)) : GS P f R M w0 its k0 rs :=
  first fun y its' rs' hy e1 e2 => keep _ e1 (by rw [e2]; exact rest y _ hy)
/-- What stands in the other registers is forgotten. -/
theorem frg (Rs : (Nat → Value) → List Value) (e : rs = Rs (gt rs)) (h : ∀ u, GS P f R M w0 its k (Rs u)) : GS P f R M w0 its k rs := by
  rw [e]
  exact h _
theorem frgO (Rs : (Nat → Value) → List Value) (e : rs = Rs (gt rs)) (h : ∀ u, OS P f R M w0 its k ops i (Rs u)) : OS P f R M w0 its k ops i rs := by
  rw [e]
  exact h _
theorem st_gt : ∀ (l : List Value) (n : Nat), st l n (gt l n) = l
  | [], n => by simp [st]
  | x :: t, 0 => by simp [st, gt]
  | x :: t, n + 1 => by simp [st, gt, st_gt t n]
/-- A register's value, said otherwise. -/
theorem c_set (t : Nat) {v v' : Value} (e : v = v') (h : GS P f R M w0 its k (st rs t v')) (hz : gt rs t = v := by kernel_rfl) : GS P f R M w0 its k rs := by
  subst e
  rw [← hz, st_gt] at h
  exact h
theorem o_set (t : Nat) {v v' : Value} (e : v = v') (h : OS P f R M w0 its k ops i (st rs t v')) (hz : gt rs t = v := by kernel_rfl) : OS P f R M w0 its k ops i rs := by
  subst e
  rw [← hz, st_gt] at h
  exact h
theorem ci {a b : Int} (h : a = b) : Value.int .i64 a = Value.int .i64 b := by rw [h]
theorem sl_set {α : Type} {A : Option Addr} {c n : Nat} {b : α} {l : List α} : Value.slice A l.length c = Value.slice A (l.set n b).length c := by rw [List.length_set]
/-- A test that has been decided. -/
theorem c_yes {c : Operand} {x y : Code} {b : Bool} (hb : b = true) (h : GS P f R M w0 its (.code x :: k) rs) (hc : ev rs c = .bool b := by kernel_rfl) : GS P f R M w0 its (.code (.cond c x y) :: k) rs := by
  subst hb
  exact c_t hc h
theorem c_no {c : Operand} {x y : Code} {b : Bool} (hb : b = false) (h : GS P f R M w0 its (.code y :: k) rs) (hc : ev rs c = .bool b := by kernel_rfl) : GS P f R M w0 its (.code (.cond c x y) :: k) rs := by
  subst hb
  exact c_f hc h
theorem c_or {c : Operand} {x y : Code} (b : Bool) (h1 : b = true → GS P f R M w0 its (.code x :: k) rs) (h2 : b = false → GS P f R M w0 its (.code y :: k) rs) (hc : ev rs c = .bool b := by kernel_rfl) : GS P f R M w0 its (.code (.cond c x y) :: k) rs :=
  c_if b hc h1 h2

/-! ### Contracts -/
abbrev Ret (w : World) (v : Value) : Ending → World → Prop := fun e W' => e = .returned v ∧ Below w.heap.size w W'
abbrev RetR (e : Enc α) (t : TypeId) (w : World) (l : List α) (res : Value → Value) : Ending → World → Prop := fun en W' => ∃ A c, en = .returned (res (.slice A l.length c)) ∧ W'.ownsRow w.heap.size t e.sz (.slice A l.length c) l.length (e.flat l) ∧ Below w.heap.size w W'
/-- A call whose result bears a new row. -/
theorem e_cr {c : Call} {d : Option Tmp} {g : FuncId} {gfn : Func} {t : TypeId} {l : List α} (args : List Value) (res : Value → Value) (hgf : P.funcs[g]? = some gfn)
    (hc : ∀ W, St M w0 W its → Calls P g args.toArray W (RetR e t W l res))
    {K : List Hold → List Value → Prop} (h : ∀ A cp, K (its ++ [rowT e w0.heap.size t (.slice A l.length cp) l]) (pt rs d (res (.slice A l.length cp))))
    (hop : o.op = .call c := by rfl) (hd : o.dst = d := by rfl) (hcal : c.callee = .value (.func g) := by rfl)
    (hb : gfn.body.isNone = false := by rfl) (hn : (gfn.name == "runtime.NumGoroutine") = false := by kernel_rfl) (ha : c.args.toList.map (ev rs) = args := by kernel_rfl) : Ex P M w0 its o rs K := by
  refine .enter (g := g) (args := args) fun W S => ⟨run_call (fst := #[]) (caps := #[]) hop hcal (x := .func g) rfl hgf hb hn (by simpa using ha) W, (hc W S).mono ?_⟩
  rintro en W' ⟨A, cp, rfl, hown, hbl⟩
  refine ⟨_, its ++ [rowT e w0.heap.size t (.slice A l.length cp) l], rfl, ?_, by rw [hd]; exact h A cp⟩
  refine S.add hbl (rowT_good _ _ _ _) (own_weaken' hown S.size) ?_
  intro k hk
  have hk' : (Value.slice A l.length cp).ownBlock = some k := hk
  exact hown.lt k hk'
theorem St.row {W : World} {B t : Nat} {A : Option Addr} {c : Nat} {l : List α} (S : St M w0 W its) (j : Nat) (h : nh its j = some (rowT e B t (.slice A l.length c) l) := by rfl) : W.ownsRow B t e.sz (.slice A l.length c) l.length (e.flat l) := by
  rw [nh_eq] at h
  exact S.get h
/-- A variable of the caller's, as it was at the call. -/
theorem y_ld0 {t T : TypeId} {x : Operand} {cs : List Value} (v : Value) (g off : Nat) (hj : w0.heap[g]? = some (.cells cs.toArray T (0, 0))) (hop : o.op = .load t x := by rfl) (hp : ev rs x = .pointer (some ⟨g, off, none⟩) := by kernel_rfl) (hv : rdC P t off cs = some v := by kernel_rfl) : Yd P no w0 its o rs v := by
  refine ⟨fun W S => .inl ?_⟩
  have hlt : g < w0.heap.size := (Array.getElem?_eq_some_iff.1 hj).1
  have hb := (S.keep g hlt (fun h => h)).trans hj
  simp [execOp, hop, hp, Instr.loadAt, Instr.sureAddr, run_loadVar_box hb hv]
theorem bx_up {W W' : World} {g : Nat} {T : TypeId} {cs : List Value} (h : W.heap[g]? = some (.cells cs.toArray T (0, 0))) (hu : Up W W') : W'.heap[g]? = some (.cells cs.toArray T (0, 0)) :=
  (hu.block g (Array.getElem?_eq_some_iff.1 h).1).trans h
theorem St.bx {W : World} {g : Nat} {T : TypeId} {cs : List Value} (S : St M w0 W its) (j : Nat) (h : nh its j = some (box g T cs) := by rfl) : W.heap[g]? = some (.cells cs.toArray T (0, 0)) := by
  rw [nh_eq] at h
  exact S.get h
end Go.Proofs.XC
namespace Go.Proofs.XC
open Go Go.RowKit
abbrev wr (z : Int) : Int := IntKind.i64.wrap z
abbrev wk (k : IntKind) (z : Int) : Int := k.wrap z
def jk (u : Nat → Value) (a : Nat) : Nat → List Value → List Value
  | 0, r => r
  | n + 1, r => u a :: jk u (a + 1) n r
theorem br {G : Prop} (b : Bool) (h1 : b = true → G) (h2 : b = false → G) : G := by
  cases b
  · exact h2 rfl
  · exact h1 rfl
variable {P : Program} {f : FuncId} {fn : Func} {R : Ending → World → Prop} {M : Nat → Prop} {w0 : World} {its its0 : List Hold} {k k0 k' : List Item} {rs : List Value} {ops : List Oper} {i fuel : Nat} {o : Oper} {listed : Array Bool} {α : Type} {e : Enc α}
variable {K : List Hold → List Value → Prop} {kk : Nat}
theorem xx (ho : nth ops i = some o) (h : Ex P M w0 its o rs (fun its' rs' => OS P f R M w0 its' k ops (i + 1) rs')) (hg : gd ops rs o = some true := by kernel_rfl) : OS P f R M w0 its k ops i rs := x ho hg h
theorem xq {v : Value} (ho : nth ops i = some o) (h : Yd P M w0 its o rs v) (hk : OS P f R M w0 its k ops (i + 1) (pt rs o.dst v)) (hg : gd ops rs o = some true := by kernel_rfl) : OS P f R M w0 its k ops i rs := x ho hg (e_y h hk)
theorem aq (i : Nat) {v : Value} (hi : nth ops i = some o) (h : Yd P M w0 its0 o rs v) (hk : AS P f R M w0 its0 kk its k ops fuel (listed.setIfInBounds i true) (pt rs o.dst v))
    (hn : its.take its0.length = its0 := by rfl) (hg : gd ops rs o = some true := by kernel_rfl) (ht : tk ops kk listed i = true := by kernel_rfl) : AS P f R M w0 its0 kk its k ops (fuel + 1) listed rs := a_q i _ hi h hk hn hg ht
theorem ap (i m : Nat) (h : AS P f R M w0 its0 kk its k ops fuel (marks m i listed) (pureR P ops m i rs)) (hn : its.take its0.length = its0 := by rfl) (hok : apOK P ops kk m i listed rs = true := by kernel_rfl) : AS P f R M w0 its0 kk its k ops (fuel + m) listed rs := a_p i m _ h hn hok
theorem ax (i : Nat) (ho : nth ops i = some o) (h : Ex P M w0 its o rs (fun its' rs' => ((listed.setIfInBounds i true).getD kk false = true ∨ its'.take (its0.length) = its0) ∧ AS P f R M w0 its0 kk its' k ops fuel (listed.setIfInBounds i true) rs'))
    (hg : gd ops rs o = some true := by kernel_rfl) (hr : Region.ready .any ops.toArray listed = [i] := by kernel_rfl) : AS P f R M w0 its0 kk its k ops (fuel + 1) listed rs := a_one i ho h hg hr
theorem a_set (t : Nat) {v v' : Value} (e : v = v') (h : AS P f R M w0 its0 kk its k ops fuel listed (st rs t v')) (hz : gt rs t = v := by kernel_rfl) : AS P f R M w0 its0 kk its k ops fuel listed rs := by
  subst e
  rw [← hz, st_gt] at h
  exact h
theorem as_start {id : Nat} (kk m : Nat) (h : AS P f R M w0 its kk its k ops m (Array.replicate m false) rs) (hm : ops.length = m := by kernel_rfl) (hx : P.follows .mixedOrders = true := by kernel_rfl) : GS P f R M w0 its (.code (.region id ops.toArray true) :: k) rs := by
  refine a_start kk its.length m ?_ hm hx
  rw [List.take_length]
  exact h
theorem rend (h : GS P f R M w0 its k rs) (hi : Nat.ble ops.length i = true := by kernel_rfl) : OS P f R M w0 its k ops i rs := r_end hi h
theorem cx {id : Nat} {k' : List Item} (h : GS P f R M w0 its k' rs) (he : exitTo id k = some k' := by rfl) : GS P f R M w0 its (.code (.exit id) :: k) rs := c_exit he h
theorem x_box {t : TypeId} {x : Operand} {d : Option Tmp} (cs : List Value) (h : ∀ g : Nat, K (its ++ [box g t cs]) (pt rs d (.pointer (some ⟨g, 0, none⟩))))
    (hop : o.op = .box t x := by rfl) (hd : o.dst = d := by rfl) (hc : (ev rs x).cells.toList = cs := by kernel_rfl) : Ex P M w0 its o rs K := e_box hop hd hc h
theorem x_new {t : TypeId} {d : Option Tmp} (cs : List Value) (h : ∀ g : Nat, K (its ++ [box g t cs]) (pt rs d (.pointer (some ⟨g, 0, none⟩))))
    (hop : o.op = .alloc t := by rfl) (hd : o.dst = d := by rfl) (hz : ((P.info? t).bind (·.zero)).map (·.cells.toList) = some cs := by kernel_rfl) : Ex P M w0 its o rs K := e_alloc hop hd hz h
theorem x_sto {t T : TypeId} {x y : Operand} {cs : List Value} (j g off : Nat) (cs' : List Value) {vs : List Value} (h : K (sh its j (box g T cs')) rs)
    (hop : o.op = .store t x y := by rfl) (hj : nh its j = some (box g T cs) := by rfl) (hd : o.dst = none := by rfl) (hp : ev rs x = .pointer (some ⟨g, off, none⟩) := by kernel_rfl) (hv : (ev rs y).cells.toList = vs := by rfl)
    (hn : (P.info? t).map (·.size) = some vs.length := by kernel_rfl) (h1 : vs.all (·.oneCell') = true := by kernel_rfl) (hle : Nat.ble (off + vs.length) cs.length = true := by kernel_rfl) (hu : upd off vs cs = cs' := by kernel_rfl) : Ex P M w0 its o rs K :=
  e_store hop hd j g off hj hp hv hn h1 hle hu h
/-- Is it a function that can be called? -/
def isFn (P : Program) (g : FuncId) : Bool := match P.funcs[g]? with
  | some fn => !fn.body.isNone && !(fn.name == "runtime.NumGoroutine")
  | none => false
theorem isFn_of {g : FuncId} {gfn : Func} (hg : P.funcs[g]? = some gfn) (hb : gfn.body.isNone = false := by rfl) (hn : (gfn.name == "runtime.NumGoroutine") = false := by kernel_rfl) : isFn P g = true := by
  unfold isFn
  rw [hg]
  simp [hb, hn]
/-- A call of a function value. -/
theorem y_cf {c : Call} {g : FuncId} {x : Operand} (caps : List Value) (args : List Value) (v : Value) (hgf : isFn P g = true)
    (hc : ∀ W, St M w0 W its → Calls P g (args ++ caps).toArray W fun e W' => e = .returned v ∧ Below W.heap.size W W')
    (hop : o.op = .call c := by rfl) (hcal : c.callee = .value x := by rfl) (hx : ev rs x = .func (.func g) #[] caps.toArray := by kernel_rfl) (ha : c.args.toList.map (ev rs) = args := by kernel_rfl) : Yd P M w0 its o rs v := by
  unfold isFn at hgf
  split at hgf
  · rename_i gfn hg
    simp only [Bool.and_eq_true, Bool.not_eq_true'] at hgf
    exact ⟨fun W S => .inr ⟨g, (args ++ caps).toArray, run_call (fst := #[]) hop hcal hx hg hgf.1 hgf.2 (by simp [ha]) W, hc W S⟩⟩
  · cases hgf
def divI (a b : Int) : Option Int := if b = 0 then none else some (wr (a.tdiv b))
def modI (a b : Int) : Option Int := if b = 0 then none else some (a.tmod b)
theorem y_div {t u : TypeId} {x y : Operand} {a b q : Int} (h : divI a b = some q) (hop : o.op = .binOp .quo t x y u := by rfl) (hx : ev rs x = .int .i64 a := by kernel_rfl) (hy : ev rs y = .int .i64 b := by kernel_rfl) : Yd P M w0 its o rs (.int .i64 q) := by
  unfold divI at h
  split at h
  · cases h
  · rename_i hb
    obtain rfl := Option.some.inj h
    refine y_pure ?_
    simp only [pureOp, hop, hx, hy, pureBin, if_true, hb, if_false]
theorem y_mod {t u : TypeId} {x y : Operand} {a b q : Int} (h : modI a b = some q) (hop : o.op = .binOp .rem t x y u := by rfl) (hx : ev rs x = .int .i64 a := by kernel_rfl) (hy : ev rs y = .int .i64 b := by kernel_rfl) : Yd P M w0 its o rs (.int .i64 q) := by
  unfold modI at h
  split at h
  · cases h
  · rename_i hb
    obtain rfl := Option.some.inj h
    refine y_pure ?_
    simp only [pureOp, hop, hx, hy, pureBin, if_true, hb, if_false]
/-- Ways meet behind the block 'id'. -/
theorem joinH {σ X : Type} {e : Option σ} {K' : σ → Prop} (id : Nat) (h : H e K') (pr : X → σ) (It : X → List Hold) (Rs : X → (Nat → Value) → List Value)
    (first : H e K' → (∀ y its' rs', K' (pr y) → its'.take (It y).length = It y → rs' = Rs y (gt rs') → GS P f R M w0 its' k' rs') → GS P f R M w0 its k0 rs)
    (rest : ∀ x u, K' (pr x) → GS P f R M w0 (It x) k' (Rs x u)) (hx : exitTo id k0 = some k' := by rfl) : GS P f R M w0 its k0 rs :=
  first h fun y its' rs' hy e1 e2 => keep _ e1 (by rw [e2]; exact rest y _ hy)
theorem joinE {σ ρ X : Type} {e : Option (ρ ⊕ σ)} {A : ρ → Prop} {K' : σ → Prop} (id : Nat) (h : H e (Kk A K')) (pr : X → σ) (It : X → List Hold) (Rs : X → (Nat → Value) → List Value)
    (first : H e (Kk A K') → (∀ y its' rs', K' (pr y) → its'.take (It y).length = It y → rs' = Rs y (gt rs') → GS P f R M w0 its' k' rs') → GS P f R M w0 its k0 rs)
    (rest : ∀ x u, K' (pr x) → GS P f R M w0 (It x) k' (Rs x u)) (hx : exitTo id k0 = some k' := by rfl) : GS P f R M w0 its k0 rs :=
  first h fun y its' rs' hy e1 e2 => keep _ e1 (by rw [e2]; exact rest y _ hy)
/-- Ways meet ahead of what is next. -/
theorem joinT {σ X : Type} {e : Option σ} {K' : σ → Prop} {x0 : Item} (h : H e K') (pr : X → σ) (It : X → List Hold) (Rs : X → (Nat → Value) → List Value)
    (first : H e K' → (∀ y its' rs', K' (pr y) → its'.take (It y).length = It y → rs' = Rs y (gt rs') → GS P f R M w0 its' k' rs') → GS P f R M w0 its (x0 :: k') rs)
    (rest : ∀ x u, K' (pr x) → GS P f R M w0 (It x) k' (Rs x u)) : GS P f R M w0 its (x0 :: k') rs :=
  first h fun y its' rs' hy e1 e2 => keep _ e1 (by rw [e2]; exact rest y _ hy)
end Go.Proofs.XC
namespace Go.Proofs.XC
open Go Go.RowKit
variable {P : Program} {f : FuncId} {fn : Func} {R : Ending → World → Prop} {M : Nat → Prop} {w0 : World} {its its0 : List Hold} {k k0 k' : List Item} {rs : List Value} {ops : List Oper} {i fuel : Nat} {o : Oper} {listed : Array Bool} {α : Type} {e : Enc α}
variable {K : List Hold → List Value → Prop} {kk : Nat}
theorem H.none {β : Type} {K : β → Prop} {G : Prop} (h : H (none : Option β) K) : G := by
  obtain ⟨_, h, _⟩ := h
  cases h
def strOf (l : List Int) : Str := l.map fun n => UInt8.ofNat n.toNat
theorem flat_ints (kd : IntKind) : ∀ l : List Int, (eI kd).flat l = l.map (Value.int kd)
  | [] => rfl
  | x :: l => by
    have := flat_ints kd l
    simp only [Enc.flat, List.flatMap_cons, List.map_cons] at this ⊢
    rw [this]
    rfl
/-- Bytes, told as a text. -/
theorem y_conv {src dst el : TypeId} {x : Operand} {A : Option Addr} {c : Nat} {l : List Int} (s : Src M w0 its (eI .u8) A c l)
    (hop : o.op = .convert src dst x := by rfl) (hv : ev rs x = .slice A l.length c := by kernel_rfl) (hs : P.underlying src = some (.slice el) := by kernel_rfl) (he : P.underlying el = some (.int .u8) := by kernel_rfl) (hd : P.underlying dst = some .string := by kernel_rfl) : Yd P M w0 its o rs (.string (bs (strOf l))) := by
  refine ⟨fun W S => .inl ?_⟩
  obtain ⟨A2, c2, e1, h2, _, _, h4⟩ := s.out W S
  injection e1 with e1 _ e3
  subst e1
  subst e3
  by_cases h0 : l.length = 0
  · have hl : l = [] := List.eq_nil_of_length_eq_zero h0
    subst hl
    cases A with
    | none =>
      simp [execOp, hop, hv, run_convert_bytes_nil W src el hs he 0 c dst hd, strOf, bs, ByteArray.empty, ByteArray.emptyWithCapacity]
      rfl
    | some a =>
      have h1 := run_convert_bytes_string W src dst el (some a) 0 c hs he hd
      simp [execOp, hop, hv, h1, run_bytesToString W a 0 c [] (by simp [loadCells, loadCellsFrom]), strOf, bs, ByteArray.empty, ByteArray.emptyWithCapacity]
      rfl
  · obtain ⟨b, off, rfl, hb, hc⟩ := h4 (by omega)
    have := run_convert_bytes_arg (P := P) W src el hs he b off l.length c l rfl (fun i hi => by
      refine hc i _ ?_
      rw [flat_ints]
      simp [hi]) dst hd
    simp [execOp, hop, hv, this]
    rfl
/-- An element of an array. -/
theorem y_arr {t el : TypeId} {x ix : Operand} {l : List α} {z : Int} {y : α} (v : Value) (hg : getI l z = some y)
    (hop : o.op = .index t x ix := by rfl) (hx : ev rs x = .agg (e.flat l).toArray := by kernel_rfl) (hi : ev rs ix = .int .i64 z := by kernel_rfl)
    (ht : P.underlying t = some (.array l.length el) := by kernel_rfl) (hs : (P.info? el).map (·.size) = some e.sz := by kernel_rfl) (hv : rdC P el 0 (e.E y) = some v := by kernel_rfl) : Yd P M w0 its o rs v := by
  refine ⟨fun W S => .inl ?_⟩
  obtain ⟨h0, h1, h2⟩ := getI_some hg
  cases hti : P.info? el with
  | none => simp [hti] at hs
  | some ti =>
    have hsz : ti.size = e.sz := by simpa [hti] using hs
    have hp : rdC P el (z.toNat * e.sz) (e.flat l) = some v := by
      unfold rdC at hv ⊢
      cases ha : aggB P el with
      | none => simp [ha] at hv
      | some b =>
        rw [ha] at hv
        cases b with
        | false =>
          simp only at hv ⊢
          have := e.flat_get (j := 0) h2 hv
          simpa using this
        | true =>
          simp only [hti, hsz] at hv ⊢
          have hle : z.toNat * e.sz + e.sz ≤ (e.flat l).length := by
            rw [e.flat_length]
            have h3 : (z.toNat + 1) * e.sz ≤ l.length * e.sz := Nat.mul_le_mul_right _ (by omega)
            rw [Nat.succ_mul] at h3
            exact h3
          have hb : Nat.ble (z.toNat * e.sz + e.sz) (e.flat l).length = true := Nat.ble_eq_true_of_le hle
          simp only [hb, cond_true, Option.some.injEq]
          have hb2 : Nat.ble (0 + e.sz) (e.E y).length = true := Nat.ble_eq_true_of_le (by rw [e.len]; omega)
          simp only [hb2, cond_true, Option.some.injEq] at hv
          rw [← hv]
          have hk : ((e.flat l).drop (z.toNat * e.sz)).take e.sz = e.E y := by
            apply List.ext_getElem?
            intro q
            by_cases hq : q < e.sz
            · rw [List.getElem?_take_of_lt hq, List.getElem?_drop]
              have hq2 : q < (e.E y).length := by rw [e.len]; exact hq
              rw [e.flat_get h2 (List.getElem?_eq_getElem hq2), List.getElem?_eq_getElem hq2]
            · rw [List.getElem?_eq_none (by rw [List.length_take]; omega), List.getElem?_eq_none (by rw [e.len]; omega)]
          rw [hk, List.drop_zero, List.take_of_length_le (by rw [e.len]; exact Nat.le_refl _)]
    have hr := run_part (P := P) hp W
    simp [execOp, hop, hx, hi, Instr.index, asIntOf, run_underlying ht, h0, h1, run_size hti, hsz, hr]
/-- The place of an element of an array that is a variable. -/
theorem y_arp {t el : TypeId} {x ix : Operand} {g : Nat} {z : Int} {y : α} {l : List α} (hg : getI l z = some y)
    (hop : o.op = .indexAddr t x ix := by rfl) (hx : ev rs x = .pointer (some ⟨g, 0, none⟩) := by kernel_rfl) (hi : ev rs ix = .int .i64 z := by kernel_rfl)
    (ht : P.underlying t = some (.array l.length el) := by kernel_rfl) (hs : (P.info? el).map (·.size) = some e.sz := by kernel_rfl) : Yd P M w0 its o rs (.pointer (some ⟨g, z.toNat * e.sz, none⟩)) := by
  refine ⟨fun W S => .inl ?_⟩
  obtain ⟨h0, h1, h2⟩ := getI_some hg
  cases hti : P.info? el with
  | none => simp [hti] at hs
  | some ti =>
    have hsz : ti.size = e.sz := by simpa [hti] using hs
    have hadd : (⟨g, 0, none⟩ : Addr).add (z.toNat * e.sz) = ⟨g, z.toNat * e.sz, none⟩ := by unfold Addr.add; split <;> simp_all
    have hne : (e.sz == 0) = false := by have := e.pos; simp; omega
    simp [execOp, hop, hx, hi, Instr.indexAt, asIntOf, run_underlying ht, h0, h1, run_size hti, hsz, hadd, Instr.sureAddr]
/-- .. and what lies there. -/
theorem y_arl {t T : TypeId} {x : Operand} {g : Nat} {z : Int} {y : α} {l : List α} (j : Nat) (v : Value) (hg : getI l z = some y)
    (hop : o.op = .load t x := by rfl) (hj : nh its j = some (box g T (e.flat l)) := by rfl) (hp : ev rs x = .pointer (some ⟨g, z.toNat * e.sz, none⟩) := by kernel_rfl) (hv : rdC P t 0 (e.E y) = some v := by kernel_rfl) : Yd P M w0 its o rs v := by
  refine ⟨fun W S => .inl ?_⟩
  obtain ⟨h0, h1, h2⟩ := getI_some hg
  rw [nh_eq] at hj
  have hb := S.get hj
  have := rdC_run (P := P) (W := W) (b := g) (off := z.toNat * e.sz) (cs := e.E y) (fun q u hq => by
    rw [cell_of_row W g _ _ T (0, 0) hb]
    have := e.flat_get h2 hq
    simpa using this) 0 hv
  simp only [Nat.add_zero] at this
  simp [execOp, hop, hp, Instr.loadAt, Instr.sureAddr, this]
/-- A range over 0 .. z - 1. -/
def rangeN {σ ρ : Type} (body : Int → σ → Option (σ ⊕ ρ)) (fin : σ → Option ρ) (z : Int) (s : σ) : Option ρ := if z ≤ 9223372036854775807 then rangeM (fun j _ s => body j s) fin (List.range z.toNat) 0 s else none
theorem rangeNR {σ ρ X : Type} {body : Int → σ → Option (σ ⊕ ρ)} {fin : σ → Option ρ} {z : Int} {K : ρ → Prop} {c : Code} (pr : X → σ) (It : X → List Hold) (Rs : Int → X → (Nat → Value) → List Value) (x0 : X)
    (h : H (rangeN body fin z (pr x0)) K) (e1 : its.take (It x0).length = It x0) (e2 : rs = Rs 0 x0 (gt rs))
    (step : ∀ (j : Nat) x u, decide ((j : Int) < z) = true → IntKind.i64.wrap ((j : Int) + 1) = ((j + 1 : Nat) : Int) →
      H (body j (pr x)) (Kk (fun s' => ∀ y its' rs', pr y = s' → its'.take (It y).length = It y → rs' = Rs ((j + 1 : Nat) : Int) y (gt rs') → GS P f R M w0 its' (.inLoop c :: k) rs') K) → GS P f R M w0 (It x) (.code c :: .inLoop c :: k) (Rs (j : Int) x u))
    (last : ∀ (j : Int) x u, decide (j < z) = false → H (fin (pr x)) K → GS P f R M w0 (It x) (.code c :: .inLoop c :: k) (Rs j x u)) :
    GS P f R M w0 its (.code (.loop c) :: k) rs := by
  unfold rangeN at h
  split at h
  case isFalse => exact H.none h
  rename_i hz
  refine ⟨fun W S => .loop ?_⟩
  have key : ∀ (n : Nat) (j : Nat) (x : X) (u : Nat → Value), (z.toNat - j = n) → j ≤ z.toNat → H (rangeM (fun j _ s => body j s) fin (List.range' j n) j (pr x)) K → GS P f R M w0 (It x) (.code c :: .inLoop c :: k) (Rs (j : Int) x u) := by
    intro n
    induction n with
    | zero =>
      intro j x u hn hj h
      exact last j x u (by simp; omega) h
    | succ n ih =>
      intro j x u hn hj h
      refine step j x u (by simp; omega) ?_ ?_
      · rw [IntKind.wrap_i64]
        omega
      · obtain ⟨o, h1, h2⟩ := H.bnd h
        refine ⟨o, h1, ?_⟩
        cases o with
        | inl s' =>
          intro y its' rs' hy e1 e2
          refine c_inl (keep _ e1 ?_)
          rw [e2]
          exact ih (j + 1) y (gt rs') (by omega) (by omega) (by rw [hy]; exact h2)
        | inr r =>
          have h3 : H (some r) K := h2
          exact h3.done
  have := (key z.toNat 0 x0 (gt rs) rfl (Nat.zero_le _) (by rw [← List.range_eq_range']; exact h)).out W (by rw [← e1]; exact S.take _)
  rw [e2]
  exact this
/-- Two operations of which either may come first. -/
theorem a_two (i j : Nat) {oi oj : Oper} (hi : nth ops i = some oi) (hj : nth ops j = some oj)
    (h1 : Ex P M w0 its oi rs (fun its' rs' => ((listed.setIfInBounds i true).getD kk false = true ∨ its'.take (its0.length) = its0) ∧ AS P f R M w0 its0 kk its' k ops fuel (listed.setIfInBounds i true) rs'))
    (h2 : Ex P M w0 its oj rs (fun its' rs' => ((listed.setIfInBounds j true).getD kk false = true ∨ its'.take (its0.length) = its0) ∧ AS P f R M w0 its0 kk its' k ops fuel (listed.setIfInBounds j true) rs'))
    (g1 : gd ops rs oi = some true := by kernel_rfl) (g2 : gd ops rs oj = some true := by kernel_rfl) (hr : Region.ready .any ops.toArray listed = [i, j] := by kernel_rfl) : AS P f R M w0 its0 kk its k ops (fuel + 1) listed rs := by
  refine a_all [i, j] (fun q hq => ?_) rfl hr
  rcases List.mem_cons.1 hq with rfl | hq
  · exact ⟨_, hi, g1, h1⟩
  · rw [List.mem_singleton] at hq
    subst hq
    exact ⟨_, hj, g2, h2⟩
theorem St.perm {W : World} {its' : List Hold} (S : St M w0 W its) (h : its'.Perm its) : St M w0 W its' :=
  ⟨S.os, S.tape, S.output, S.size, S.keep, fun it hi => S.all it (h.subset hi), h.symm.pairwise S.apart fun hxy k hy hx => hxy k hx hy⟩
theorem perm_last (l : List Hold) (a b : Hold) : (l ++ [b, a]).Perm (l ++ [a, b]) := List.Perm.append_left l (List.Perm.swap a b [])
/-- The last two items, the other way round. -/
theorem swp (l : List Hold) (a b : Hold) (h : GS P f R M w0 (l ++ [b, a]) k rs) (e : its = l ++ [a, b] := by kernel_rfl) : GS P f R M w0 its k rs := by
  subst e
  exact ⟨fun W S => h.out W (S.perm (perm_last l a b))⟩
end Go.Proofs.XC
namespace Go.Proofs.XC
open Go Go.RowKit
variable {P : Program} {f : FuncId} {fn : Func} {R : Ending → World → Prop} {M : Nat → Prop} {w0 : World} {its its0 : List Hold} {k k0 k' : List Item} {rs : List Value} {ops : List Oper} {i fuel : Nat} {o : Oper} {listed : Array Bool} {α : Type} {e : Enc α}
variable {K : List Hold → List Value → Prop} {kk : Nat}
/-! ### Bytes that were a text -/
def bufI (g : Nat) (t : TypeId) (l : Str) : Hold := ⟨fun k => k = g, fun W => ∃ cs fr, W.heap[g]? = some (.cells cs t fr) ∧ (∀ (j : Nat) (b : UInt8), l[j]? = some b → cs[j]? = some (Value.int .u8 (b.toNat : Int))) ∧ l.length ≤ fr.1⟩
theorem buf_good (g : Nat) (t : TypeId) (l : Str) : (bufI g t l).good := by
  rintro W W' h ⟨cs, fr, h1, h2⟩
  exact ⟨cs, fr, (h g rfl).trans h1, h2⟩
theorem e_tob {src dst el : TypeId} {x : Operand} {d : Option Tmp} {s : Str} (h : ∀ (g cp : Nat), K (its ++ [bufI g el s]) (pt rs d (.slice (some ⟨g, 0, none⟩) s.length cp)))
    (hop : o.op = .convert src dst x := by rfl) (hd : o.dst = d := by rfl) (hx : ev rs x = .string (bs s) := by kernel_rfl) (hs : P.underlying src = some .string := by kernel_rfl) (ht : P.underlying dst = some (.slice el) := by kernel_rfl) (he : P.underlying el = some (.int .u8) := by kernel_rfl) : Ex P M w0 its o rs K := by
  refine .value fun W S => ?_
  have hr := run_bytes_of_string (P := P) W src dst el (bs s) hs ht he
  refine ⟨_, _, its ++ [bufI W.heap.size el s], by simp only [execOp, hop, hx]; rw [Sem.run_bind, hr]; rfl, ?_, by rw [hd]; exact h _ _⟩
  have hb : Below W.heap.size W (W.drew.alloc (.cells (bytesRow (bs s) (grownCap W (bs s).size 0 el)) el ((bytesRow (bs s) (grownCap W (bs s).size 0 el)).size, (bytesRow (bs s) (grownCap W (bs s).size 0 el)).size + 1))) :=
    (below_of_drew W).alloc (Nat.le_refl _) _
  refine S.add hb (buf_good _ _ _) ⟨_, _, heap_alloc_new W.drew _, fun j b hj => ?_, ?_⟩ ?_
  · have hjl : j < s.length := (List.getElem?_eq_some_iff.1 hj).1
    have := bytesRow_at (bs s) (grownCap W (bs s).size 0 el) j hjl
    rw [this]
    have h3 : (bs s).data[j]'hjl = b := (List.getElem?_eq_some_iff.1 hj).2
    rw [h3]
  · simp [bytesRow, bs]
  · intro k hk
    have hk' : k = W.heap.size := hk
    subst hk'
    exact ⟨Nat.le_refl _, by simp⟩
/-- The place of an element, told by the slice alone. -/
theorem y_ids {t el : TypeId} {x ix : Operand} {g n c size : Nat} {z : Int} (h0 : 0 ≤ z) (h1 : z < n)
    (hop : o.op = .indexAddr t x ix := by rfl) (hv : ev rs x = .slice (some ⟨g, 0, none⟩) n c := by kernel_rfl) (hi : ev rs ix = .int .i64 z := by kernel_rfl)
    (ht : P.underlying t = some (.slice el) := by kernel_rfl) (hs : (P.info? el).map (·.size) = some 1 := by kernel_rfl) : Yd P M w0 its o rs (.pointer (some ⟨g, z.toNat, none⟩)) := by
  refine ⟨fun W S => .inl ?_⟩
  cases hti : P.info? el with
  | none => simp [hti] at hs
  | some ti =>
    have hsz : ti.size = 1 := by simpa [hti] using hs
    have hadd : (⟨g, 0, none⟩ : Addr).add z.toNat = ⟨g, z.toNat, none⟩ := by unfold Addr.add; split <;> simp_all
    simp [execOp, hop, hv, hi, Instr.indexAt, asIntOf, run_underlying ht, h0, h1, run_size hti, hsz, hadd]
theorem e_stb {t : TypeId} {el : TypeId} {x y : Operand} {g q : Nat} {l : Str} {b : UInt8} (j : Nat) (hq : q < l.length) (h : K (sh its j (bufI g el (l.set q b))) rs)
    (hj : nh its j = some (bufI g el l) := by rfl) (hop : o.op = .store t x y := by rfl) (hd : o.dst = none := by rfl) (hp : ev rs x = .pointer (some ⟨g, q, none⟩) := by kernel_rfl) (hv : ev rs y = .int .u8 (b.toNat : Int) := by kernel_rfl)
    (hn : (P.info? t).map (·.size) = some 1 := by kernel_rfl) : Ex P M w0 its o rs K := by
  refine .skip fun W S => ?_
  rw [nh_eq] at hj
  obtain ⟨cs, fr, h1, h2, h3⟩ := S.get hj
  have hqc : q < cs.size := (Array.getElem?_eq_some_iff.1 (h2 q _ (List.getElem?_eq_getElem hq))).1
  have hlt := (S.own hj g rfl).2
  have hcell : W.cell? ⟨g, q, none⟩ = some cs[q] := by
    unfold World.cell?
    simp [h1, hqc]
  have hfz : W.frozen? ⟨g, q, none⟩ = false := by
    unfold World.frozen?
    simp [h1]
    omega
  cases hti : P.info? t with
  | none => simp [hti] at hn
  | some ti =>
    have hsz : ti.size = 1 := by simpa [hti] using hn
    have hset : W.heap.size = (W.setCell ⟨g, q, none⟩ (.int .u8 (b.toNat : Int))).heap.size := by simp
    refine ⟨W.setCell ⟨g, q, none⟩ (.int .u8 (b.toNat : Int)), sh its j (bufI g el (l.set q b)), ?_, ?_, by rw [hd]; exact h⟩
    · simp [execOp, hop, hp, hv, Instr.storeAt, Instr.sureAddr, storeVar, run_size hti, hsz, Value.cells, storeCells, Addr.add, store, Sem.run, hcell, hfz, Value.oneCell']
    · rw [sh_eq]
      have hother : ∀ k, k ≠ g → (W.setCell ⟨g, q, none⟩ (.int .u8 (b.toNat : Int))).heap[k]? = W.heap[k]? := by
        intro k hk
        unfold World.setCell
        simp [Array.getElem?_modify, Ne.symm hk]
      have hself : (W.setCell ⟨g, q, none⟩ (.int .u8 (b.toNat : Int))).heap[g]? = some (.cells (cs.setIfInBounds q (.int .u8 (b.toNat : Int))) el fr) := by
        unfold World.setCell
        simp [Array.getElem?_modify, h1]
      refine S.upd hj rfl rfl rfl (by rw [← hset]; exact Nat.le_refl _) (fun k hk hne => hother k (fun e => hne e)) (buf_good _ _ _) ⟨_, fr, hself, ?_, by rw [List.length_set]; exact h3⟩ ?_
      · intro p c hpc
        by_cases hpq : q = p
        · subst hpq
          rw [List.getElem?_set_self hq] at hpc
          obtain rfl := Option.some.inj hpc
          simp [hqc]
        · rw [List.getElem?_set_ne hpq] at hpc
          rw [Array.getElem?_setIfInBounds_ne hpq]
          exact h2 p c hpc
      · intro k hk
        have hk' : k = g := hk
        subst hk'
        exact ⟨.inl rfl, by rw [← hset]; exact hlt⟩
theorem y_fromb {src dst el : TypeId} {x : Operand} {g c : Nat} {l : Str} (j : Nat) (hj : nh its j = some (bufI g el l) := by rfl)
    (hop : o.op = .convert src dst x := by rfl) (hv : ev rs x = .slice (some ⟨g, 0, none⟩) l.length c := by kernel_rfl) (hs : P.underlying src = some (.slice el) := by kernel_rfl) (he : P.underlying el = some (.int .u8) := by kernel_rfl) (hd : P.underlying dst = some .string := by kernel_rfl) : Yd P M w0 its o rs (.string (bs l)) := by
  refine ⟨fun W S => .inl ?_⟩
  rw [nh_eq] at hj
  obtain ⟨cs, fr, h1, h2, h3⟩ := S.get hj
  have := run_convert_bytes_back (P := P) W src dst el ⟨g, 0, none⟩ c l hs he hd (fun q hq => by
    have h4 := h2 q _ (List.getElem?_eq_getElem hq)
    have hadd : (⟨g, 0, none⟩ : Addr).add q = ⟨g, q, none⟩ := by unfold Addr.add; split <;> simp_all
    rw [hadd]
    unfold World.cell?
    simpa [h1] using h4)
  simp [execOp, hop, hv, this]
  rfl
end Go.Proofs.XC
namespace Go.Proofs.XC
open Go Go.RowKit
variable {P : Program} {f : FuncId} {fn : Func} {R : Ending → World → Prop} {M : Nat → Prop} {w0 : World} {its its0 : List Hold} {k k0 k' : List Item} {rs : List Value} {ops : List Oper} {i fuel : Nat} {o : Oper} {listed : Array Bool} {α : Type} {e : Enc α}
variable {K : List Hold → List Value → Prop} {kk : Nat}
/-! ### Arrays that are variables, interfaces -/
theorem y_arpk {t el : TypeId} {x ix : Operand} {kd : IntKind} {g : Nat} {z : Int} {l : List α} (h0 : 0 ≤ z) (h1 : z < l.length)
    (hop : o.op = .indexAddr t x ix := by rfl) (hx : ev rs x = .pointer (some ⟨g, 0, none⟩) := by kernel_rfl) (hi : ev rs ix = .int kd z := by kernel_rfl)
    (ht : P.underlying t = some (.array l.length el) := by kernel_rfl) (hs : (P.info? el).map (·.size) = some e.sz := by kernel_rfl) : Yd P M w0 its o rs (.pointer (some ⟨g, z.toNat * e.sz, none⟩)) := by
  refine ⟨fun W S => .inl ?_⟩
  cases hti : P.info? el with
  | none => simp [hti] at hs
  | some ti =>
    have hsz : ti.size = e.sz := by simpa [hti] using hs
    have hadd : (⟨g, 0, none⟩ : Addr).add (z.toNat * e.sz) = ⟨g, z.toNat * e.sz, none⟩ := by unfold Addr.add; split <;> simp_all
    simp [execOp, hop, hx, hi, Instr.indexAt, asIntOf, run_underlying ht, h0, h1, run_size hti, hsz, hadd, Instr.sureAddr]
theorem updL_eq : ∀ (off : Nat) (vs cs : List Value), off + vs.length ≤ cs.length → upd off vs cs = updL off vs cs := by
  intro off vs cs h
  rw [upd_eq _ _ _ h]
  unfold updL
  simp
theorem e_star {t T : TypeId} {x y : Operand} {g : Nat} {l : List α} {z : Nat} {a b : α} (j : Nat) (hg : l[z]? = some a) (h : K (sh its j (box g T (e.flat (l.set z b)))) rs)
    (hj : nh its j = some (box g T (e.flat l)) := by rfl) (hop : o.op = .store t x y := by rfl) (hd : o.dst = none := by rfl) (hp : ev rs x = .pointer (some ⟨g, z * e.sz, none⟩) := by kernel_rfl) (hv : (ev rs y).cells.toList = e.E b := by kernel_rfl)
    (hn : (P.info? t).map (·.size) = some (e.E b).length := by kernel_rfl) : Ex P M w0 its o rs K := by
  have hlt : z < l.length := (List.getElem?_eq_some_iff.1 hg).1
  have hfit : z * e.sz + (e.E b).length ≤ (e.flat l).length := by
    rw [e.len, e.flat_length]
    have h3 : (z + 1) * e.sz ≤ l.length * e.sz := Nat.mul_le_mul_right _ hlt
    rw [Nat.succ_mul] at h3
    exact h3
  refine e_store hop hd j g (z * e.sz) hj hp hv hn (List.all_eq_true.2 (e.one b)) (Nat.ble_eq_true_of_le hfit) ?_ h
  rw [updL_eq _ _ _ hfit, e.flat_upd 0 (e.E b) a b (by rw [e.len]; omega) (by
    unfold updL
    rw [e.len, List.take_zero, List.nil_append, List.drop_eq_nil_of_le (by rw [e.len]; omega), List.append_nil]) l z hg]
  rfl
theorem y_mkif {t : TypeId} {x : Operand} {d : TypeDesc} (v : Value) (hop : o.op = .makeInterface t x := by rfl) (hv : ev rs x = v := by kernel_rfl) (ht : P.underlying t = some d := by kernel_rfl) (hni : (match d with | .interface _ => false | _ => true) = true := by rfl) : Yd P M w0 its o rs (.iface t v) := by
  refine ⟨fun W S => .inl ?_⟩
  subst hv
  cases d <;> first | (cases hni; done) | simp [execOp, hop, Instr.makeInterface, run_underlying ht]
/-- Is the slice nil? -/
theorem y_eqn {t u el : TypeId} {x y : Operand} {A : Option Addr} {n c : Nat} (hop : o.op = .binOp .eql t x y u := by rfl) (hx : ev rs x = .slice A n c := by kernel_rfl) (hy : ev rs y = .slice none 0 0 := by kernel_rfl) (ht : P.underlying t = some (.slice el) := by kernel_rfl) : Yd P M w0 its o rs (.bool A.isNone) := by
  refine ⟨fun W S => .inl ?_⟩
  have h := run_equal_slice_nil (P := P) W t el A n c ht
  simp [execOp, hop, hx, hy, eqGuard, binOp, h]
theorem y_nen {t u el : TypeId} {x y : Operand} {A : Option Addr} {n c : Nat} (hop : o.op = .binOp .neq t x y u := by rfl) (hx : ev rs x = .slice A n c := by kernel_rfl) (hy : ev rs y = .slice none 0 0 := by kernel_rfl) (ht : P.underlying t = some (.slice el) := by kernel_rfl) : Yd P M w0 its o rs (.bool (!A.isNone)) := by
  refine ⟨fun W S => .inl ?_⟩
  have h := run_equal_slice_nil (P := P) W t el A n c ht
  simp [execOp, hop, hx, hy, eqGuard, binOp, h]
/-- Left and right, exchanged. -/
def swapLR (b : UInt8) : UInt8 := if b = 108 then 114 else if b = 114 then 108 else b
end Go.Proofs.XC
namespace Go.Proofs.XC
open Go Go.RowKit
variable {P : Program} {f : FuncId} {fn : Func} {R : Ending → World → Prop} {M : Nat → Prop} {w0 : World} {its its0 : List Hold} {k k0 k' : List Item} {rs : List Value} {ops : List Oper} {i fuel : Nat} {o : Oper} {listed : Array Bool} {α : Type} {e : Enc α}
variable {K : List Hold → List Value → Prop} {kk : Nat}
theorem getI_set {l : List α} {z : Int} {a b : α} (h : getI l z = some a) : getI (l.set z.toNat b) z = some b := by
  obtain ⟨h0, h1, h2⟩ := getI_some h
  unfold getI
  rw [if_pos h0, List.getElem?_set_self (by omega)]
/-! ### Rows that came in, and are written -/
def argW (e : Enc α) (B t : Nat) (A : Option Addr) (n c : Nat) (l : List α) : Hold := ⟨fun k => (Value.slice A n c).ownBlock = some k, fun W => l.length = n ∧ W.ownsRow B t e.sz (.slice A n c) n (e.flat l)⟩
theorem argW_good (e : Enc α) (B t : Nat) (A : Option Addr) (n c : Nat) (l : List α) : (argW e B t A n c l).good := by
  rintro W W' h ⟨h1, h2⟩
  exact ⟨h1, row_good B t e.sz (.slice A n c) n (e.flat l) W W' h h2⟩
abbrev RetW (e : Enc α) (B t : Nat) (A : Option Addr) (n c : Nat) (w : World) (l : List α) (v : Value) : Ending → World → Prop := fun en W' => en = .returned v ∧ l.length = n ∧ W'.ownsRow B t e.sz (.slice A n c) n (e.flat l) ∧ w.grownBy W' (Value.slice A n c).ownBlock
theorem callsW {c : Code} {args : List Value} {B t : Nat} {A : Option Addr} {n cp : Nat} {l : List α} (hn : l.length = n) (h0 : w0.ownsRow B t e.sz (.slice A n cp) n (e.flat l)) (hf : P.funcs[f]? = some fn) (hb : fn.body = some c)
    (h : GS P f R (fun k => (Value.slice A n cp).ownBlock = some k) w0 [argW e B t A n cp l] [.code c] (args ++ List.replicate (fn.ntmps - args.length) undef)) : Calls P f args.toArray w0 R := by
  have S : St (fun k => (Value.slice A n cp).ownBlock = some k) w0 w0 [argW e B t A n cp l] := by
    refine ⟨rfl, rfl, rfl, Nat.le_refl _, fun _ _ _ => rfl, fun it hi => ?_, by simp⟩
    rw [List.mem_singleton] at hi
    subst hi
    exact ⟨argW_good _ _ _ _ _ _ _, ⟨hn, h0⟩, fun k hk => ⟨.inr hk, (h0.lt k hk).2⟩⟩
  exact G.calls hf hb (by simpa using h.out w0 S)
theorem St.retW {W : World} {B t : Nat} {A : Option Addr} {n c : Nat} {l : List α} {v : Value} (S : St (fun k => (Value.slice A n c).ownBlock = some k) w0 W its) (h : nh its 0 = some (argW e B t A n c l) := by rfl) : RetW e B t A n c w0 l v (.returned v) W := by
  rw [nh_eq] at h
  have hF := S.get h
  exact ⟨rfl, hF.1, hF.2, S.os, S.tape, S.output, S.size, fun k hk hne => S.keep k hk fun h => hne h.symm⟩
/-- It can be read. -/
theorem s_argW {B t : Nat} {A : Option Addr} {n c : Nat} {l : List α} (j : Nat) (h : nh its j = some (argW e B t A n c l) := by rfl) : Src M w0 its e A c l := by
  rw [nh_eq] at h
  refine ⟨fun W S => ?_⟩
  have hF := S.get h
  obtain ⟨rfl, h2⟩ := hF
  exact .own h2
theorem y_idxW {t el : TypeId} {x ix : Operand} {B : Nat} {A : Option Addr} {n c : Nat} {l : List α} {z : Int} {y : α} (j : Nat) (hg : getI l z = some y)
    (hj : nh its j = some (argW e B el A n c l) := by rfl) (hop : o.op = .indexAddr t x ix := by rfl) (hv : ev rs x = .slice A n c := by kernel_rfl) (hi : ev rs ix = .int .i64 z := by kernel_rfl)
    (ht : P.underlying t = some (.slice el) := by kernel_rfl) (hs : (P.info? el).map (fun i => (i.size, i.bytes)) = some (e.sz, e.by_) := by kernel_rfl) : Yd P M w0 its o rs (elp A (z.toNat * e.sz)) := by
  refine ⟨fun W S => ?_⟩
  have hj' := hj
  rw [nh_eq] at hj'
  obtain ⟨h1, _⟩ := S.get hj'
  subst h1
  exact (y_idx (e := e) (el := el) hg (s_argW (M := M) (w0 := w0) j hj) hop hv hi ht hs).out W S
theorem y_elW {t el : TypeId} {x : Operand} {B : Nat} {A : Option Addr} {n c : Nat} {l : List α} {z : Int} {y : α} (j fo : Nat) (v : Value) (hg : getI l z = some y)
    (hj : nh its j = some (argW e B el A n c l) := by rfl) (hop : o.op = .load t x := by rfl) (hp : ev rs x = elp A (z.toNat * e.sz + fo) := by kernel_rfl) (hv : rdC P t fo (e.E y) = some v := by kernel_rfl) : Yd P M w0 its o rs v :=
  y_el fo v hg (s_argW j hj) hop hp hv
/-- A store into (a part of) an element. -/
theorem e_stW {t el : TypeId} {x y : Operand} {B : Nat} {A : Option Addr} {n c : Nat} {l : List α} {z : Int} {a b : α} (j fo : Nat) (vs : List Value) (hg : getI l z = some a) (hb : e.E b = updL fo vs (e.E a))
    (h : K (sh its j (argW e B el A n c (l.set z.toNat b))) rs)
    (hj : nh its j = some (argW e B el A n c l) := by rfl)
    (hop : o.op = .store t x y := by rfl) (hd : o.dst = none := by rfl) (hp : ev rs x = elp A (z.toNat * e.sz + fo) := by kernel_rfl) (hv : (ev rs y).cells.toList = vs := by kernel_rfl)
    (hn : (P.info? t).map (·.size) = some vs.length := by kernel_rfl) (h1 : vs.all (·.oneCell') = true := by kernel_rfl) (hle : Nat.ble (fo + vs.length) e.sz = true := by kernel_rfl) : Ex P M w0 its o rs K := by
  refine .skip fun W S => ?_
  have hj' := hj
  rw [nh_eq] at hj
  obtain ⟨hln, hown⟩ := S.get hj
  subst hln
  obtain ⟨h0, hz1, hz2⟩ := getI_some hg
  have hle' := Nat.le_of_ble_eq_true hle
  have hlt : z.toNat < l.length := by omega
  have hfit : z.toNat * e.sz + fo + vs.length ≤ l.length * e.sz := by
    have h3 : (z.toNat + 1) * e.sz ≤ l.length * e.sz := Nat.mul_le_mul_right _ hlt
    rw [Nat.succ_mul] at h3
    omega
  rcases hown.2 with ⟨_, h2⟩ | ⟨g, cap, cur, h2, hbg, hh, hnc, hcm, hcs, htk⟩
  · omega
  injection h2 with h2 _ h3
  subst h2
  subst h3
  subst hv
  generalize hvv : (ev rs y).cells.toList = vs at *
  have hcl : l.length * e.sz ≤ cur.toList.length := by
    have hcz : cur.toList.length = cur.size := Array.length_toList
    rw [hcz, hcs]
    exact Nat.mul_le_mul_right _ hnc
  have hcz : cur.toList.length = cur.size := Array.length_toList
  have hrun : (storeVar t ⟨g, z.toNat * e.sz + fo, none⟩ (ev rs y)).run P W = .ok () (W.setRow g (updL (z.toNat * e.sz + fo) vs cur.toList).toArray) := by
    have := run_storeVar_box (P := P) (W := W) (g := g) (off := z.toNat * e.sz + fo) (t := t) (T := el) (cs := cur.toList) (v := ev rs y) (by simpa using hh) (by rw [hvv]; exact hn) (by rw [hvv]; exact h1) (by rw [hvv]; omega)
    rw [hvv] at this
    rw [this]
    unfold updL
    simp
  have hset : (l.set z.toNat b).length = l.length := List.length_set
  refine ⟨W.setRow g (updL (z.toNat * e.sz + fo) vs cur.toList).toArray, _, ?_, ?_, by rw [hd]; exact h⟩
  · simp only [execOp, hop, hp, Instr.storeAt, elp, bl, of, Nat.zero_add]
    simp [Instr.sureAddr, hrun]
  · rw [sh_eq]
    refine S.upd hj rfl rfl rfl (by simp) (fun k hk hne => setRow_other W g k _ (fun e1 => hne ?_)) (argW_good _ _ _ _ _ _ _) ⟨hset, ?_⟩ ?_
    · subst e1; rfl
    · refine ⟨by rw [e.flat_length, hset], .inr ⟨g, c, _, rfl, hbg, setRow_heap W g cur _ el (0, 0) hh, hnc, hcm, ?_, ?_⟩⟩
      · unfold updL
        rw [List.size_toArray, List.length_append, List.length_append, List.length_take, List.length_drop, hcz]
        have h5 : l.length * e.sz ≤ cur.size := by rw [← hcz]; exact hcl
        rw [Nat.min_eq_left (by omega)]
        omega
      · rw [List.toList_toArray, take_updL _ _ _ _ (by omega) hcl, htk, e.flat_upd fo vs a b hle' hb l z.toNat hz2]
    · intro k hk
      have hk' : (Value.slice (some ⟨g, 0, none⟩) l.length c).ownBlock = some k := hk
      simp only [Value.ownBlock, Option.some.injEq] at hk'
      subst hk'
      exact ⟨.inl rfl, by simpa using (S.own hj g rfl).2⟩
/-- .. the element having been written before. -/
theorem e_stW2 {t el : TypeId} {x y : Operand} {B : Nat} {A : Option Addr} {n c : Nat} {l : List α} {z : Int} {a0 a b : α} (j fo : Nat) (vs : List Value) (hg : getI l z = some a0) (hb : e.E b = updL fo vs (e.E a))
    (h : K (sh its j (argW e B el A n c (l.set z.toNat b))) rs)
    (hj : nh its j = some (argW e B el A n c (l.set z.toNat a)) := by rfl)
    (hop : o.op = .store t x y := by rfl) (hd : o.dst = none := by rfl) (hp : ev rs x = elp A (z.toNat * e.sz + fo) := by kernel_rfl) (hv : (ev rs y).cells.toList = vs := by kernel_rfl)
    (hn : (P.info? t).map (·.size) = some vs.length := by kernel_rfl) (h1 : vs.all (·.oneCell') = true := by kernel_rfl) (hle : Nat.ble (fo + vs.length) e.sz = true := by kernel_rfl) : Ex P M w0 its o rs K := by
  refine e_stW (l := l.set z.toNat a) (a := a) (b := b) j fo vs (getI_set hg) hb ?_ hj hop hd hp hv hn h1 hle
  rw [List.set_set]
  exact h
/-- A call by which a row is written. -/
theorem e_cw {c : Call} {d : Option Tmp} {g : FuncId} {gfn : Func} {t B : Nat} {A : Option Addr} {cp : Nat} {l l' : List α} {v : Value} (j : Nat) (args : List Value) (hgf : P.funcs[g]? = some gfn)
    (hc : ∀ W, St M w0 W its → Calls P g args.toArray W (RetW e B t A l.length cp W l' v))
    (h : l'.length = l.length → K (sh its j (rowT e B t (.slice A l'.length cp) l')) (pt rs d v))
    (hj : nh its j = some (rowT e B t (.slice A l.length cp) l) := by rfl)
    (hop : o.op = .call c := by rfl) (hd : o.dst = d := by rfl) (hcal : c.callee = .value (.func g) := by rfl)
    (hb : gfn.body.isNone = false := by rfl) (hn : (gfn.name == "runtime.NumGoroutine") = false := by kernel_rfl) (ha : c.args.toList.map (ev rs) = args := by kernel_rfl) : Ex P M w0 its o rs K := by
  refine .enter (g := g) (args := args) fun W S => ⟨run_call (fst := #[]) (caps := #[]) hop hcal (x := .func g) rfl hgf hb hn (by simpa using ha) W, (hc W S).mono ?_⟩
  rintro en W' ⟨rfl, hl, hown, hgr⟩
  rw [nh_eq] at hj
  refine ⟨v, sh its j (rowT e B t (.slice A l'.length cp) l'), rfl, ?_, by rw [hd]; exact h hl⟩
  rw [sh_eq]
  refine S.upd hj hgr.os hgr.tape hgr.output hgr.size (fun k hk hne => hgr.block k hk fun e1 => hne e1.symm) (rowT_good _ _ _ _) ?_ ?_
  · show W'.ownsRow _ _ _ _ _ _
    rw [hl]
    exact hown
  · intro k hk
    have hk' : (Value.slice A l'.length cp).ownBlock = some k := hk
    rw [hl] at hk'
    exact ⟨.inl hk', (hown.lt k hk').2⟩
/-- .. one that came in. -/
theorem e_cwW {c : Call} {d : Option Tmp} {g : FuncId} {gfn : Func} {t B : Nat} {A : Option Addr} {n cp : Nat} {l l' : List α} {v : Value} (j : Nat) (args : List Value) (hgf : P.funcs[g]? = some gfn)
    (hc : ∀ W, St M w0 W its → Calls P g args.toArray W (RetW e B t A n cp W l' v))
    (h : K (sh its j (argW e B t A n cp l')) (pt rs d v))
    (hj : nh its j = some (argW e B t A n cp l) := by rfl)
    (hop : o.op = .call c := by rfl) (hd : o.dst = d := by rfl) (hcal : c.callee = .value (.func g) := by rfl)
    (hb : gfn.body.isNone = false := by rfl) (hn : (gfn.name == "runtime.NumGoroutine") = false := by kernel_rfl) (ha : c.args.toList.map (ev rs) = args := by kernel_rfl) : Ex P M w0 its o rs K := by
  refine .enter (g := g) (args := args) fun W S => ⟨run_call (fst := #[]) (caps := #[]) hop hcal (x := .func g) rfl hgf hb hn (by simpa using ha) W, (hc W S).mono ?_⟩
  rintro en W' ⟨rfl, hl, hown, hgr⟩
  rw [nh_eq] at hj
  refine ⟨v, sh its j (argW e B t A n cp l'), rfl, ?_, by rw [hd]; exact h⟩
  rw [sh_eq]
  exact S.upd hj hgr.os hgr.tape hgr.output hgr.size (fun k hk hne => hgr.block k hk fun e1 => hne e1.symm) (argW_good _ _ _ _ _ _ _) ⟨hl, hown⟩ fun k hk => ⟨.inl hk, (hown.lt k hk).2⟩
theorem sl_len {A : Option Addr} {c : Nat} {l l' : List α} (h : l'.length = l.length) : Value.slice A l.length c = Value.slice A l'.length c := by rw [h]
theorem St.rowW {W : World} {B t : Nat} {A : Option Addr} {n c : Nat} {l : List α} (S : St M w0 W its) (j : Nat) (h : nh its j = some (argW e B t A n c l) := by rfl) : l.length = n ∧ W.ownsRow B t e.sz (.slice A n c) n (e.flat l) := by
  rw [nh_eq] at h
  exact S.get h
end Go.Proofs.XC
namespace Go.Proofs.XC
open Go Go.RowKit
variable {P : Program} {f : FuncId} {fn : Func} {R : Ending → World → Prop} {M : Nat → Prop} {w0 : World} {its its' : List Hold} {k : List Item} {rs : List Value} {ops : List Oper} {i : Nat}
/-! ### Some of the items, in another order -/
def inB (a : Nat) : List Nat → Bool
  | [] => false
  | b :: l => bif Nat.beq a b then true else inB a l
theorem inB_iff {a : Nat} : ∀ l : List Nat, inB a l = true ↔ a ∈ l
  | [] => by simp [inB]
  | b :: l => by
    unfold inB
    cases h : Nat.beq a b with
    | true => simp [Nat.eq_of_beq_eq_true h]
    | false =>
      have : a ≠ b := Nat.ne_of_beq_eq_false h
      simp [inB_iff l, this]
def nodupB : List Nat → Bool
  | [] => true
  | a :: l => bif inB a l then false else nodupB l
def selH (its : List Hold) : List Nat → Option (List Hold)
  | [] => some []
  | i :: l => match nh its i, selH its l with
    | some a, some r => some (a :: r)
    | _, _ => none
theorem selH_mem : ∀ (ix : List Nat) {its' : List Hold}, selH its ix = some its' → ∀ b ∈ its', ∃ j ∈ ix, its[j]? = some b
  | [], its', h, b, hb => by
    simp only [selH, Option.some.injEq] at h
    subst h
    cases hb
  | i :: ix, its', h, b, hb => by
    simp only [selH] at h
    split at h
    · rename_i a r ha hr
      obtain rfl := Option.some.inj h
      rcases List.mem_cons.1 hb with rfl | hb
      · exact ⟨i, List.mem_cons_self, by rw [← nh_eq]; exact ha⟩
      · obtain ⟨j, hj, h2⟩ := selH_mem ix hr b hb
        exact ⟨j, List.mem_cons_of_mem _ hj, h2⟩
    · cases h
theorem St.two {W : World} (S : St M w0 W its) {i j : Nat} {a b : Hold} (hij : i ≠ j) (ha : its[i]? = some a) (hb : its[j]? = some b) : ∀ k, a.own k → ¬ b.own k := by
  have hp := List.pairwise_iff_getElem.1 S.apart
  obtain ⟨hi', rfl⟩ := List.getElem?_eq_some_iff.1 ha
  obtain ⟨hj', rfl⟩ := List.getElem?_eq_some_iff.1 hb
  intro k h1 h2
  rcases Nat.lt_or_ge i j with hl | hl
  · exact hp i j hi' hj' hl k h1 h2
  · exact hp j i hj' hi' (by omega) k h2 h1
theorem St.sel {W : World} (S : St M w0 W its) (ix : List Nat) {its' : List Hold} (e : selH its ix = some its') (hn : nodupB ix = true) : St M w0 W its' := by
  refine ⟨S.os, S.tape, S.output, S.size, S.keep, fun it hi => ?_, ?_⟩
  · obtain ⟨j, _, hj⟩ := selH_mem ix e it hi
    exact S.all it (List.mem_of_getElem? hj)
  · induction ix generalizing its' with
    | nil =>
      simp only [selH, Option.some.injEq] at e
      subst e
      exact .nil
    | cons i ix ih =>
      simp only [selH] at e
      split at e
      · rename_i a r ha hr
        obtain rfl := Option.some.inj e
        simp only [nodupB] at hn
        cases hin : inB i ix with
        | true => rw [hin] at hn; cases hn
        | false =>
          rw [hin, cond_false] at hn
          refine List.pairwise_cons.2 ⟨fun b hb => ?_, ih hr hn⟩
          obtain ⟨j, hj, hj2⟩ := selH_mem ix hr b hb
          refine S.two (fun hij => ?_) (by rw [← nh_eq]; exact ha) hj2
          subst hij
          have := (inB_iff ix).2 hj
          rw [hin] at this
          cases this
      · cases e
theorem pick (ix : List Nat) (its' : List Hold) (h : GS P f R M w0 its' k rs) (e : selH its ix = some its' := by kernel_rfl) (hn : nodupB ix = true := by kernel_rfl) : GS P f R M w0 its k rs :=
  ⟨fun W S => h.out W (S.sel ix e hn)⟩
end Go.Proofs.XC
namespace Go.Proofs.XC
open Go Go.RowKit
variable {P : Program} {f : FuncId} {fn : Func} {R : Ending → World → Prop} {M : Nat → Prop} {w0 : World} {its its0 its' : List Hold} {k : List Item} {rs : List Value} {ops : List Oper} {i kk fuel : Nat} {o : Oper} {listed : Array Bool} {α : Type} {e : Enc α}
variable {K : List Hold → List Value → Prop}
/-! ### Rows of rows -/
structure Sl where
  A : Option Addr
  n : Nat
  c : Nat
def Sl.v (s : Sl) : Value := .slice s.A s.n s.c
def eSl : Enc Sl := ⟨fun s => [.slice s.A s.n s.c], 1, 24, fun _ => rfl, fun s u h => by rw [List.mem_singleton] at h; subst h; rfl, Nat.one_pos⟩
structure Inn (e : Enc α) (B t : Nat) (W : World) (us : List Sl) (ls : List (List α)) : Prop where
  len : us.length = ls.length
  row : ∀ (i : Nat) s l, us[i]? = some s → ls[i]? = some l → s.n = l.length ∧ W.ownsRow B t e.sz (.slice s.A l.length s.c) l.length (e.flat l)
  apart : ∀ (i j : Nat) s s' k, i ≠ j → us[i]? = some s → us[j]? = some s' → s.v.ownBlock = some k → s'.v.ownBlock ≠ some k
def inns (e : Enc α) (B t : Nat) (us : List Sl) (ls : List (List α)) : Hold := ⟨fun k => ∃ s ∈ us, s.v.ownBlock = some k, fun W => Inn e B t W us ls⟩
theorem own_any {A : Option Addr} {n n' c c' : Nat} : (Value.slice A n c).ownBlock = (Value.slice A n' c').ownBlock := by cases A <;> rfl
theorem inns_good (e : Enc α) (B t : Nat) (us : List Sl) (ls : List (List α)) : (inns e B t us ls).good := by
  intro W W' h hF
  have hF : Inn e B t W us ls := hF
  refine ⟨hF.len, fun i s l hs hl => ?_, hF.apart⟩
  obtain ⟨h1, h2⟩ := hF.row i s l hs hl
  refine ⟨h1, row_good B t e.sz (.slice s.A l.length s.c) l.length (e.flat l) W W' (fun k hk => h k ⟨s, List.mem_of_getElem? hs, ?_⟩) h2⟩
  have hk : (Value.slice s.A l.length s.c).ownBlock = some k := hk
  unfold Sl.v
  rw [own_any (n' := l.length) (c' := s.c)]
  exact hk
theorem Inn.nil (e : Enc α) (B t : Nat) (W : World) : Inn e B t W [] [] := ⟨rfl, fun i s l h => by simp at h, fun i j s s' k _ h => by simp at h⟩
theorem Inn.add {B t : Nat} {W : World} {us : List Sl} {ls : List (List α)} {A : Option Addr} {c : Nat} {l : List α} (h : Inn e B t W us ls) (hr : W.ownsRow B t e.sz (.slice A l.length c) l.length (e.flat l))
    (ha : ∀ k, (Value.slice A l.length c).ownBlock = some k → ¬ ∃ s ∈ us, s.v.ownBlock = some k) : Inn e B t W (us ++ [⟨A, l.length, c⟩]) (ls ++ [l]) := by
  have g : ∀ (i : Nat) s, (us ++ [(⟨A, l.length, c⟩ : Sl)])[i]? = some s → us[i]? = some s ∨ (i = us.length ∧ s = ⟨A, l.length, c⟩) := by
    intro i s hs
    rcases Nat.lt_or_ge i us.length with h1 | h1
    · left; rwa [List.getElem?_append_left h1] at hs
    · right
      rw [List.getElem?_append_right h1] at hs
      cases hi : i - us.length with
      | zero => rw [hi] at hs; simp at hs; exact ⟨by omega, hs.symm⟩
      | succ n => rw [hi] at hs; simp at hs
  refine ⟨by simp [h.len], fun i s l' hs hl => ?_, fun i j s s' k hij hs hs' hk hk' => ?_⟩
  · rcases g i s hs with h1 | ⟨h1, rfl⟩
    · have hlt := (List.getElem?_eq_some_iff.1 h1).1
      rw [List.getElem?_append_left (by rw [← h.len]; exact hlt)] at hl
      exact h.row i s l' h1 hl
    · subst h1
      rw [h.len, List.getElem?_append_right (Nat.le_refl _), Nat.sub_self] at hl
      simp at hl
      subst hl
      exact ⟨rfl, hr⟩
  · rcases g i s hs with h1 | ⟨h1, rfl⟩ <;> rcases g j s' hs' with h2 | ⟨h2, rfl⟩
    · exact h.apart i j s s' k hij h1 h2 hk hk'
    · exact ha k hk' ⟨s, List.mem_of_getElem? h1, hk⟩
    · exact ha k hk ⟨s', List.mem_of_getElem? h2, hk'⟩
    · omega
theorem St.merge {W : World} {l : List Hold} {a b c : Hold} (S : St M w0 W (l ++ [a, b])) (hg : c.good) (hF : a.F W → b.F W → (∀ k, a.own k → ¬ b.own k) → c.F W) (ho : ∀ k, c.own k → a.own k ∨ b.own k) : St M w0 W (l ++ [c]) := by
  have ha : a ∈ l ++ [a, b] := by simp
  have hb : b ∈ l ++ [a, b] := by simp
  have hp := List.pairwise_append.1 S.apart
  refine ⟨S.os, S.tape, S.output, S.size, S.keep, fun it hi => ?_, ?_⟩
  · rcases List.mem_append.1 hi with hi | hi
    · exact S.all it (List.mem_append_left _ hi)
    · rw [List.mem_singleton] at hi
      subst hi
      refine ⟨hg, hF (S.all a ha).2.1 (S.all b hb).2.1 (fun k h1 h2 => ?_), fun k hk => ?_⟩
      · have := List.pairwise_cons.1 hp.2.1
        exact this.1 b (by simp) k h1 h2
      · rcases ho k hk with h | h
        · exact (S.all a ha).2.2 k h
        · exact (S.all b hb).2.2 k h
  · refine List.pairwise_append.2 ⟨hp.1, by simp, fun x hx y hy k h1 h2 => ?_⟩
    rw [List.mem_singleton] at hy
    subst hy
    rcases ho k h2 with h | h
    · exact hp.2.2 x hx a (by simp) k h1 h
    · exact hp.2.2 x hx b (by simp) k h1 h
theorem St.absorb {W : World} {B t : Nat} {A : Option Addr} {c : Nat} {l : List α} {us : List Sl} {ls : List (List α)} {r : List Hold} (S : St M w0 W (r ++ [rowT e B t (.slice A l.length c) l, inns e B t us ls])) : St M w0 W (r ++ [inns e B t (us ++ [⟨A, l.length, c⟩]) (ls ++ [l])]) := by
  refine S.merge (inns_good _ _ _ _ _) (fun h1 h2 ha => Inn.add h2 h1 fun k hk hx => ha k hk hx) fun k hk => ?_
  obtain ⟨s, hs, hk⟩ := hk
  rcases List.mem_append.1 hs with hs | hs
  · exact .inr ⟨s, hs, hk⟩
  · rw [List.mem_singleton] at hs
    subst hs
    exact .inl hk
/-- A row goes into a row of rows. -/
theorem absorb (ix : List Nat) (r : List Hold) {B t : Nat} {A : Option Addr} {c : Nat} {l : List α} {us : List Sl} {ls : List (List α)} (h : GS P f R M w0 (r ++ [inns e B t (us ++ [⟨A, l.length, c⟩]) (ls ++ [l])]) k rs)
    (e1 : selH its ix = some (r ++ [rowT e B t (.slice A l.length c) l, inns e B t us ls]) := by kernel_rfl) (hn : nodupB ix = true := by kernel_rfl) : GS P f R M w0 its k rs := ⟨fun W S => h.out W (S.sel ix e1 hn).absorb⟩
theorem absorbO (ix : List Nat) (r : List Hold) {B t : Nat} {A : Option Addr} {c : Nat} {l : List α} {us : List Sl} {ls : List (List α)} (h : OS P f R M w0 (r ++ [inns e B t (us ++ [⟨A, l.length, c⟩]) (ls ++ [l])]) k ops i rs)
    (e1 : selH its ix = some (r ++ [rowT e B t (.slice A l.length c) l, inns e B t us ls]) := by kernel_rfl) (hn : nodupB ix = true := by kernel_rfl) : OS P f R M w0 its k ops i rs := ⟨fun W S => h.out W (S.sel ix e1 hn).absorb⟩
theorem pickO (ix : List Nat) (its' : List Hold) (h : OS P f R M w0 its' k ops i rs) (e : selH its ix = some its' := by kernel_rfl) (hn : nodupB ix = true := by kernel_rfl) : OS P f R M w0 its k ops i rs :=
  ⟨fun W S => h.out W (S.sel ix e hn)⟩
/-- A row of rows, still empty. -/
theorem St.inn0 {W : World} (S : St M w0 W its) (e : Enc α) (B t : Nat) : St M w0 W (its ++ [inns e B t [] []]) := by
  refine S.add (Below.refl _ _) (inns_good _ _ _ _ _) (Inn.nil _ _ _ _) ?_
  rintro k ⟨s, hs, _⟩
  cases hs
theorem c_inn (e : Enc α) (t : Nat) (h : GS P f R M w0 (its ++ [inns e w0.heap.size t [] []]) k rs) : GS P f R M w0 its k rs := ⟨fun W S => h.out W (S.inn0 e _ t)⟩
theorem o_inn (e : Enc α) (t : Nat) (h : OS P f R M w0 (its ++ [inns e w0.heap.size t [] []]) k ops i rs) : OS P f R M w0 its k ops i rs := ⟨fun W S => h.out W (S.inn0 e _ t)⟩
/-- What holds in every world is known. -/
theorem c_fact {φ : Prop} (hφ : ∀ W, St M w0 W its → φ) (h : φ → GS P f R M w0 its k rs) : GS P f R M w0 its k rs := ⟨fun W S => (h (hφ W S)).out W S⟩
theorem o_fact {φ : Prop} (hφ : ∀ W, St M w0 W its → φ) (h : φ → OS P f R M w0 its k ops i rs) : OS P f R M w0 its k ops i rs := ⟨fun W S => (h (hφ W S)).out W S⟩
theorem St.inn {W : World} {B t : Nat} {us : List Sl} {ls : List (List α)} (S : St M w0 W its) (j : Nat) (h : nh its j = some (inns e B t us ls) := by rfl) : Inn e B t W us ls := by
  rw [nh_eq] at h
  exact S.get h
theorem getI_both {us : List Sl} {ls : List (List α)} {z : Int} {l : List α} (hl : us.length = ls.length) (h : getI ls z = some l) : ∃ s, getI us z = some s := by
  obtain ⟨h0, h1, h2⟩ := getI_some h
  refine ⟨us[z.toNat]'(by omega), ?_⟩
  unfold getI
  rw [if_pos h0]
  exact List.getElem?_eq_getElem _
theorem Inn.at {B t : Nat} {W : World} {us : List Sl} {ls : List (List α)} (h : Inn e B t W us ls) {z : Int} {s : Sl} {l : List α} (hs : getI us z = some s) (hl : getI ls z = some l) : s.n = l.length ∧ W.ownsRow B t e.sz (.slice s.A l.length s.c) l.length (e.flat l) :=
  h.row z.toNat s l (getI_some hs).2.2 (getI_some hl).2.2
theorem s_inn {B t : Nat} {us : List Sl} {ls : List (List α)} {z : Int} {s : Sl} {l : List α} (j : Nat) (hs : getI us z = some s) (hl : getI ls z = some l) (h : nh its j = some (inns e B t us ls) := by rfl) : Src M w0 its e s.A s.c l :=
  ⟨fun W S => .own ((S.inn j h).at hs hl).2⟩
theorem sl_n {s : Sl} {n : Nat} (h : s.n = n) : Value.slice s.A s.n s.c = Value.slice s.A n s.c := by rw [h]
/-- A row of rows that can be read. -/
structure RdI (e : Enc α) (W : World) (us : List Sl) (ls : List (List α)) : Prop where
  len : us.length = ls.length
  row : ∀ (i : Nat) s l, us[i]? = some s → ls[i]? = some l → s.n = l.length ∧ RdT e W (.slice s.A l.length s.c) l
theorem RdI.up {W W' : World} {us : List Sl} {ls : List (List α)} (h : RdI e W us ls) (hu : Up W W') : RdI e W' us ls := ⟨h.len, fun i s l hs hl => ⟨(h.row i s l hs hl).1, Rd.up (h.row i s l hs hl).2 hu⟩⟩
theorem RdI.at {W : World} {us : List Sl} {ls : List (List α)} (h : RdI e W us ls) {z : Int} {s : Sl} {l : List α} (hs : getI us z = some s) (hl : getI ls z = some l) : s.n = l.length ∧ RdT e W (.slice s.A l.length s.c) l :=
  h.row z.toNat s l (getI_some hs).2.2 (getI_some hl).2.2
theorem Inn.rd {B t : Nat} {W : World} {us : List Sl} {ls : List (List α)} (h : Inn e B t W us ls) : RdI e W us ls := ⟨h.len, fun i s l hs hl => ⟨(h.row i s l hs hl).1, .own (h.row i s l hs hl).2⟩⟩
structure SrcI (M : Nat → Prop) (w0 : World) (its : List Hold) (e : Enc α) (us : List Sl) (ls : List (List α)) : Prop where
  out : ∀ W, St M w0 W its → RdI e W us ls
theorem i_arg {us : List Sl} {ls : List (List α)} (h : RdI e w0 us ls) : SrcI no w0 its e us ls := ⟨fun W S => RdI.up h S.below⟩
theorem i_own {B t : Nat} {us : List Sl} {ls : List (List α)} (j : Nat) (h : nh its j = some (inns e B t us ls) := by rfl) : SrcI M w0 its e us ls := ⟨fun W S => (S.inn j h).rd⟩
theorem s_in {us : List Sl} {ls : List (List α)} {z : Int} {s : Sl} {l : List α} (hi : SrcI M w0 its e us ls) (hs : getI us z = some s) (hl : getI ls z = some l) : Src M w0 its e s.A s.c l := ⟨fun W S => ((hi.out W S).at hs hl).2⟩
theorem f_len {us : List Sl} {ls : List (List α)} (hi : SrcI M w0 its e us ls) : ∀ W, St M w0 W its → us.length = ls.length := fun W S => (hi.out W S).len
theorem f_n {us : List Sl} {ls : List (List α)} {z : Int} {s : Sl} {l : List α} (hi : SrcI M w0 its e us ls) (hs : getI us z = some s) (hl : getI ls z = some l) : ∀ W, St M w0 W its → s.n = l.length := fun W S => ((hi.out W S).at hs hl).1
/-! ### Results -/
abbrev RetD (e : Enc α) (t ti : TypeId) (w : World) (ls : List (List α)) (res : Value → Value) : Ending → World → Prop := fun en W' => ∃ A c us, en = .returned (res (.slice A (List.length us) c)) ∧ W'.ownsRow w.heap.size t 1 (.slice A (List.length us) c) (List.length us) (eSl.flat us) ∧ Inn e w.heap.size ti W' us ls ∧ (∀ k, (Value.slice A (List.length us) c).ownBlock = some k → ¬ ∃ s ∈ us, s.v.ownBlock = some k) ∧ (∀ k, (∃ s ∈ us, s.v.ownBlock = some k) → w.heap.size ≤ k ∧ k < W'.heap.size) ∧ Below w.heap.size w W'
theorem St.retD {W : World} {t ti : TypeId} {A : Option Addr} {c : Nat} {us : List Sl} {ls : List (List α)} {res : Value → Value} (S : St no w0 W its) (j q : Nat) (hjq : j ≠ q) (hj : nh its j = some (rowT eSl w0.heap.size t (.slice A us.length c) us) := by rfl) (hq : nh its q = some (inns e w0.heap.size ti us ls) := by rfl) : RetD e t ti w0 ls res (.returned (res (.slice A us.length c))) W := by
  refine ⟨A, c, us, rfl, S.row j hj, S.inn q hq, ?_, ?_, S.below⟩
  · rw [nh_eq] at hj hq
    exact S.two hjq hj hq
  · intro k hk
    rw [nh_eq] at hq
    have := S.own hq k hk
    rcases this with ⟨h | h, h2⟩
    · exact ⟨h, h2⟩
    · exact h.elim
theorem Inn.weaken {B B' t : Nat} {W : World} {us : List Sl} {ls : List (List α)} (h : Inn e B t W us ls) (hb : B' ≤ B) : Inn e B' t W us ls := ⟨h.len, fun i s l hs hl => ⟨(h.row i s l hs hl).1, own_weaken' (h.row i s l hs hl).2 hb⟩, h.apart⟩
/-- A call whose result bears a new row of rows. -/
theorem e_crd {c : Call} {d : Option Tmp} {g : FuncId} {gfn : Func} {t ti : TypeId} {ls : List (List α)} (args : List Value) (res : Value → Value) (hgf : P.funcs[g]? = some gfn)
    (hc : ∀ W, St M w0 W its → Calls P g args.toArray W (RetD e t ti W ls res))
    {K : List Hold → List Value → Prop} (h : ∀ A cp us, K (its ++ [rowT eSl w0.heap.size t (.slice A (List.length us) cp) us, inns e w0.heap.size ti us ls]) (pt rs d (res (.slice A (List.length us) cp))))
    (hop : o.op = .call c := by rfl) (hd : o.dst = d := by rfl) (hcal : c.callee = .value (.func g) := by rfl)
    (hb : gfn.body.isNone = false := by rfl) (hn : (gfn.name == "runtime.NumGoroutine") = false := by kernel_rfl) (ha : c.args.toList.map (ev rs) = args := by kernel_rfl) : Ex P M w0 its o rs K := by
  refine .enter (g := g) (args := args) fun W S => ⟨run_call (fst := #[]) (caps := #[]) hop hcal (x := .func g) rfl hgf hb hn (by simpa using ha) W, (hc W S).mono ?_⟩
  rintro en W' ⟨A, cp, us, rfl, hown, hin, hap, hlt, hbl⟩
  refine ⟨_, its ++ [rowT eSl w0.heap.size t (.slice A us.length cp) us, inns e w0.heap.size ti us ls], rfl, ?_, by rw [hd]; exact h A cp us⟩
  have S1 : St M w0 W' (its ++ [rowT eSl w0.heap.size t (.slice A us.length cp) us]) := by
    refine S.add hbl (rowT_good _ _ _ _) (own_weaken' hown S.size) ?_
    intro k hk
    have hk' : (Value.slice A us.length cp).ownBlock = some k := hk
    exact hown.lt k hk'
  refine ⟨S1.os, S1.tape, S1.output, S1.size, S1.keep, fun it hi => ?_, ?_⟩
  · rw [show its ++ [rowT eSl w0.heap.size t (.slice A us.length cp) us, inns e w0.heap.size ti us ls] = (its ++ [rowT eSl w0.heap.size t (.slice A us.length cp) us]) ++ [inns e w0.heap.size ti us ls] by simp] at hi
    rcases List.mem_append.1 hi with hi | hi
    · exact S1.all it hi
    · rw [List.mem_singleton] at hi
      subst hi
      exact ⟨inns_good _ _ _ _ _, hin.weaken S.size, fun k hk => ⟨.inl (Nat.le_trans S.size (hlt k hk).1), (hlt k hk).2⟩⟩
  · rw [show its ++ [rowT eSl w0.heap.size t (.slice A us.length cp) us, inns e w0.heap.size ti us ls] = (its ++ [rowT eSl w0.heap.size t (.slice A us.length cp) us]) ++ [inns e w0.heap.size ti us ls] by simp]
    refine List.pairwise_append.2 ⟨S1.apart, by simp, fun x hx y hy k h1 h2 => ?_⟩
    rw [List.mem_singleton] at hy
    subst hy
    rcases List.mem_append.1 hx with hx | hx
    · have g1 := ((S.all x hx).2.2 k h1).2
      have g2 := (hlt k h2).1
      omega
    · rw [List.mem_singleton] at hx
      subst hx
      exact hap k h1 h2
/-- A region that draws, told over the first n items. -/
theorem as_startN {id : Nat} (kk n m : Nat) (h : AS P f R M w0 (its.take n) kk its k ops m (Array.replicate m false) rs) (hm : ops.length = m := by kernel_rfl) (hx : P.follows .mixedOrders = true := by kernel_rfl) : GS P f R M w0 its (.code (.region id ops.toArray true) :: k) rs := a_start kk n m h hm hx
/-! ### One more row -/
def appD {α : Type} (ls ms : List (List α)) : Option (List (List α)) := if (ls.length + ms.length) * 24 ≤ 140737488355328 then some (ls ++ ms) else none
theorem appD_sl {us ws : List Sl} {ls ms q : List (List α)} (h : appD ls ms = some q) (h1 : us.length = ls.length) (h2 : ws.length = ms.length) : appG eSl us ws = some (us ++ ws) ∧ q = ls ++ ms := by
  unfold appD at h
  split at h
  · rename_i hc
    obtain rfl := Option.some.inj h
    refine ⟨?_, rfl⟩
    unfold appG
    rw [h1, h2, if_pos]
    exact hc
  · cases h
theorem absorbE (ix : List Nat) (r : List Hold) {B t : Nat} {A : Option Addr} {c : Nat} {l : List α} {us : List Sl} {ls q : List (List α)} (hq : q = ls ++ [l]) (h : GS P f R M w0 (r ++ [inns e B t (us ++ [⟨A, l.length, c⟩]) q]) k rs)
    (e1 : selH its ix = some (r ++ [rowT e B t (.slice A l.length c) l, inns e B t us ls]) := by kernel_rfl) (hn : nodupB ix = true := by kernel_rfl) : GS P f R M w0 its k rs := by
  subst hq
  exact absorb ix r h e1 hn
theorem a_fact {φ : Prop} (hφ : ∀ W, St M w0 W its0 → φ) (h : φ → AS P f R M w0 its0 kk its k ops fuel listed rs) (ht : its.take its0.length = its0 := by rfl) : AS P f R M w0 its0 kk its k ops fuel listed rs := ⟨fun W S => (h (hφ W (by rw [← ht]; exact S.take _))).out W S⟩
theorem len_sl {us : List Sl} {ls : List (List α)} (h : us.length = ls.length) : Value.int .i64 (us.length : Int) = Value.int .i64 (ls.length : Int) := by rw [h]
/-- A range over a row of rows. -/
theorem rangeRD {σ ρ X : Type} {body : Int → List α → σ → Option (σ ⊕ ρ)} {fin : σ → Option ρ} {us : List Sl} {L : List (List α)} {K : ρ → Prop} {c : Code} {A : Option Addr} {cp : Nat} (s : Src M w0 its eSl A cp us) (si : SrcI M w0 its e us L) (pr : X → σ) (It : X → List Hold) (Rs : Nat → X → (Nat → Value) → List Value) (x0 : X)
    (h : H (rangeM body fin L 0 (pr x0)) K) (e1 : its.take (It x0).length = It x0) (e2 : rs = Rs 0 x0 (gt rs))
    (step : ∀ (j : Nat) x u a, decide ((j : Int) < (L.length : Int)) = true → getI L (j : Int) = some a → IntKind.i64.wrap ((j : Int) + 1) = ((j + 1 : Nat) : Int) →
      H (body j a (pr x)) (Kk (fun s' => ∀ y its' rs', pr y = s' → its'.take (It y).length = It y → rs' = Rs (j + 1) y (gt rs') → GS P f R M w0 its' (.inLoop c :: k) rs') K) → GS P f R M w0 (It x) (.code c :: .inLoop c :: k) (Rs j x u))
    (last : ∀ x u, decide ((L.length : Int) < (L.length : Int)) = false → H (fin (pr x)) K → GS P f R M w0 (It x) (.code c :: .inLoop c :: k) (Rs L.length x u)) :
    GS P f R M w0 its (.code (.loop c) :: k) rs := by
  refine ⟨fun W S => .loop ?_⟩
  have hL : L.length ≤ 9223372036854775807 := by
    rw [← (si.out W S).len]
    exact s.len S
  have key : ∀ (l : List (List α)) (j : Nat) (x : X) (u : Nat → Value), L.drop j = l → j ≤ L.length → H (rangeM body fin l j (pr x)) K → GS P f R M w0 (It x) (.code c :: .inLoop c :: k) (Rs j x u) := by
    intro l
    induction l with
    | nil =>
      intro j x u hd hj h
      have : L.length ≤ j := List.drop_eq_nil_iff.1 hd
      have hjl : j = L.length := by omega
      subst hjl
      exact last x u (by simp) h
    | cons a l ih =>
      intro j x u hd hj h
      have hlt : j < L.length := by
        rcases Nat.lt_or_ge j L.length with h1 | h1
        · exact h1
        · rw [List.drop_eq_nil_of_le h1] at hd; cases hd
      have hget : L[j]? = some a := by
        have := congrArg (fun l => l[0]?) hd
        simpa using this
      have hd' : L.drop (j + 1) = l := by
        rw [← List.drop_drop (i := 1) (j := j), hd]
        rfl
      refine step j x u a (by simpa using hlt) ?_ ?_ ?_
      · unfold getI
        rw [if_pos (by omega)]
        simpa using hget
      · rw [IntKind.wrap_i64]
        omega
      · obtain ⟨o, h1, h2⟩ := H.bnd h
        refine ⟨o, h1, ?_⟩
        cases o with
        | inl s' =>
          intro y its' rs' hy e1 e2
          refine c_inl (keep _ e1 ?_)
          rw [e2]
          exact ih (j + 1) y (gt rs') hd' (by omega) (by rw [hy]; exact h2)
        | inr r =>
        have h3 : H (some r) K := h2
        exact h3.done
  have := (key L 0 x0 (gt rs) rfl (Nat.zero_le _) h).out W (by rw [← e1]; exact S.take _)
  rw [e2]
  exact this
/-! ### Rows of rows whose rows are written -/
abbrev RetWD (e : Enc α) (B t : Nat) (us : List Sl) (w : World) (ls : List (List α)) (v : Value) : Ending → World → Prop := fun en W' => en = .returned v ∧ Inn e B t W' us ls ∧ W'.os = w.os ∧ W'.tape = w.tape ∧ W'.output = w.output ∧ w.heap.size ≤ W'.heap.size ∧ ∀ k, k < w.heap.size → ¬ (∃ s ∈ us, s.v.ownBlock = some k) → W'.heap[k]? = w.heap[k]?
theorem e_cwd {c : Call} {d : Option Tmp} {g : FuncId} {gfn : Func} {t : TypeId} {us : List Sl} {ls ls' : List (List α)} {v : Value} (j : Nat) (args : List Value) (hgf : P.funcs[g]? = some gfn)
    (hc : ∀ W, St M w0 W its → Calls P g args.toArray W (RetWD e w0.heap.size t us W ls' v))
    {K : List Hold → List Value → Prop} (h : K (sh its j (inns e w0.heap.size t us ls')) (pt rs d v)) (hj : nh its j = some (inns e w0.heap.size t us ls) := by rfl)
    (hop : o.op = .call c := by rfl) (hd : o.dst = d := by rfl) (hcal : c.callee = .value (.func g) := by rfl)
    (hb : gfn.body.isNone = false := by rfl) (hn : (gfn.name == "runtime.NumGoroutine") = false := by kernel_rfl) (ha : c.args.toList.map (ev rs) = args := by kernel_rfl) : Ex P M w0 its o rs K := by
  refine .enter (g := g) (args := args) fun W S => ⟨run_call (fst := #[]) (caps := #[]) hop hcal (x := .func g) rfl hgf hb hn (by simpa using ha) W, (hc W S).mono ?_⟩
  rintro en W' ⟨rfl, hin, h1, h2, h3, h4, h5⟩
  refine ⟨_, sh its j (inns e w0.heap.size t us ls'), rfl, ?_, by rw [hd]; exact h⟩
  rw [nh_eq] at hj
  rw [sh_eq]
  refine S.upd hj h1 h2 h3 h4 h5 (inns_good _ _ _ _ _) hin fun k hk => ⟨.inl hk, ?_⟩
  exact Nat.lt_of_lt_of_le (S.own hj k hk).2 h4
end Go.Proofs.XC
namespace Go.Proofs.XC
open Go Go.RowKit
variable {P : Program} {f : FuncId} {fn : Func} {R : Ending → World → Prop} {M : Nat → Prop} {w0 W W2 : World} {its its0 its' : List Hold} {k : List Item} {rs : List Value} {ops : List Oper} {i kk fuel : Nat} {o : Oper} {listed : Array Bool} {α β : Type} {e : Enc α} {e' : Enc β}
/-! ### Functions that are handed on beside a row that is written -/
theorem St.grw {A : Option Addr} {n c : Nat} (S : St (fun k => (Value.slice A n c).ownBlock = some k) w0 W its) : w0.grownBy W (Value.slice A n c).ownBlock :=
  ⟨S.os, S.tape, S.output, S.size, fun k hk hne => S.keep k hk fun h => hne h.symm⟩
theorem grw_up {b : Option Nat} {w : World} (h : w.grownBy W b) (hu : Up W W2) : w.grownBy W2 b :=
  ⟨hu.os.trans h.os, hu.tape.trans h.tape, hu.output.trans h.output, Nat.le_trans h.size hu.size, fun k hk hne => (hu.block k (Nat.lt_of_lt_of_le hk h.size)).trans (h.block k hk hne)⟩
theorem grw_tr {b : Option Nat} {w : World} (h : w.grownBy W b) (h2 : W.grownBy W2 b) : w.grownBy W2 b :=
  ⟨h2.os.trans h.os, h2.tape.trans h.tape, h2.output.trans h.output, Nat.le_trans h.size h2.size, fun k hk hne => (h2.block k (Nat.lt_of_lt_of_le hk h.size) hne).trans (h.block k hk hne)⟩
theorem up_far {t : Nat} {A : Option Addr} {n c n2 c2 : Nat} {l : List α} (S : St no w0 W its) (j : Nat) (hj : nh its j = some (rowT e w0.heap.size t (.slice A n c) l)) (hg : W.grownBy W2 (Value.slice A n2 c2).ownBlock) : Up w0 W2 := by
  rw [nh_eq] at hj
  refine ⟨hg.os.trans S.os, hg.tape.trans S.tape, hg.output.trans S.output, Nat.le_trans S.size hg.size, fun k hk => ?_⟩
  have hne : some k ≠ (Value.slice A n2 c2).ownBlock := by
    intro h
    have hk' : (Value.slice A n c).ownBlock = some k := by rw [own_any (n' := n2) (c' := c2)]; exact h.symm
    rcases (S.own hj k hk').1 with h1 | h1
    · omega
    · exact h1
  exact (hg.block k (Nat.lt_of_lt_of_le hk S.size) hne).trans (S.keep k hk fun h => h)
theorem bx_far {t B : Nat} {A : Option Addr} {n c n2 c2 : Nat} {l : List α} {g : Nat} {T : TypeId} {cs : List Value} (S : St M w0 W its) (i j : Nat) (hij : i ≠ j) (hi : nh its i = some (box g T cs)) (hj : nh its j = some (rowT e B t (.slice A n c) l)) (hg : W.grownBy W2 (Value.slice A n2 c2).ownBlock) : W2.heap[g]? = some (.cells cs.toArray T (0, 0)) := by
  rw [nh_eq] at hi hj
  have hF : W.heap[g]? = some (.cells cs.toArray T (0, 0)) := S.get hi
  have hlt := (S.own hi g rfl).2
  have hne : some g ≠ (Value.slice A n2 c2).ownBlock := by
    intro h
    have hk' : (Value.slice A n c).ownBlock = some g := by rw [own_any (n' := n2) (c' := c2)]; exact h.symm
    exact S.two hij hi hj g rfl hk'
  exact (hg.block g hlt hne).trans hF
end Go.Proofs.XC
namespace Go.Proofs.XC
open Go Go.RowKit
section
variable {P : Program} {ops : Array Oper} {Q : Exit → Act → World → Prop}
/-! ### Operations that only reckon may come at any time -/
theorem AB.firstP {S2 : Array Bool → World → Prop} {i : Nat} {oi : Oper} {v : Value} (hi : ops[i]? = some oi) (hsel : ∀ (j : Nat) (o : Oper) cs b, ops[j]? = some o → o.op ≠ .select cs b)
    (hQ : ∀ c a w, Q (.panic c) (a.put oi.dst v) w → Q (.panic c) a w) (hSu2 : ∀ l w w', S2 l w → Up w w' → S2 l w') (hS2e : ∀ l, S2 l = S2 (l.setIfInBounds i true)) :
    ∀ (fuel : Nat) (listed : Array Bool) (a : Act) (w : World),
      (∀ j oj, ops[j]? = some oj → j ≠ i → listed.getD j true = false → (∀ e ∈ oj.after, Region.binds .any e = true → e.on ≠ i) → oi.apart ops oj = true) →
      i ∈ Region.ready .any ops listed → Qt P ops (fun _ => True) oi v a →
      AB P ops Q S2 fuel (listed.setIfInBounds i true) (a.put oi.dst v) w → S2 (listed.setIfInBounds i true) w → AB P ops Q S2 (fuel + 1) listed a w := by
  intro fuel
  induction fuel with
  | zero =>
    intro listed a w _ hr hy H H2
    refine ⟨fun h => (by rw [h] at hr; cases hr), fun j hj w2 h2 => ?_⟩
    by_cases hji : j = i
    · subst hji
      exact hy.wpOp hi trivial fun w' hu => ⟨hSu2 _ _ _ (hSu2 _ _ _ H2 h2) hu, H.up (h2.trans hu)⟩
    · have := ready_mono hj hji
      rw [H.1] at this
      cases this
  | succ fuel ih =>
    intro listed a w hfree hr hy H H2
    refine ⟨fun h => (by rw [h] at hr; cases hr), fun j hj w2 h2 => ?_⟩
    by_cases hji : j = i
    · subst hji
      exact hy.wpOp hi trivial fun w' hu => ⟨hSu2 _ _ _ (hSu2 _ _ _ H2 h2) hu, H.up (h2.trans hu)⟩
    · have h1 := H.2 j (ready_mono hj hji) w2 h2
      obtain ⟨hjun, oj, hoj, hall⟩ := mem_ready.1 hj
      have hnot : ∀ e ∈ oj.after, Region.binds .any e = true → e.on ≠ i := fun e he hb heq => by
        have h1 := hall e he hb
        have h0 := (mem_ready.1 hr).1
        rw [heq] at h1
        rcases Nat.lt_or_ge i listed.size with h' | h'
        · simp [h'] at h0 h1; rw [h0] at h1; cases h1
        · simp [Array.getElem?_eq_none h'] at h1
      have h2' := wpOp_apart hoj (hfree j oj hoj hji hjun hnot) (fun cs b => hsel i oi cs b hi) (fun cs b => hsel j oj cs b hoj) hQ hy h1
      have hfree' : ∀ k ok, ops[k]? = some ok → k ≠ i → (listed.setIfInBounds j true).getD k true = false →
          (∀ e ∈ ok.after, Region.binds .any e = true → e.on ≠ i) → oi.apart ops ok = true := fun k ok hk hki hun hno => by
        refine hfree k ok hk hki ?_ hno
        by_cases hjk : j = k
        · subst hjk; exact hjun
        · rw [getD_set_ne true hjk] at hun; exact hun
      have hcomm : (listed.setIfInBounds j true).setIfInBounds i true = (listed.setIfInBounds i true).setIfInBounds j true := Array.setIfInBounds_comm _ _ hji
      refine wpOp_mono (fun a' w' h3 => ⟨?_, ih (listed.setIfInBounds j true) a' w' hfree' (ready_mono hr (Ne.symm hji)) h3.1 ?_ ?_⟩) h2'
      · rw [hS2e, hcomm]; exact h3.2.1
      · rw [hcomm]; exact h3.2.2
      · rw [hcomm]; exact h3.2.1
end
variable {P : Program} {f : FuncId} {fn : Func} {R : Ending → World → Prop} {M : Nat → Prop} {w0 : World} {its its0 : List Hold} {k : List Item} {rs : List Value} {ops : List Oper} {i kk fuel : Nat} {o : Oper} {listed : Array Bool}
def tkP (ops : List Oper) (kk : Nat) (listed : Array Bool) (i : Nat) : Bool := (Region.ready .any ops.toArray listed).contains i && Region.free .any ops.toArray listed i && Region.noSelect ops.toArray && !(Nat.beq i kk)
theorem a_firstP {v : Value} (hi : nth ops i = some o) (ht : tkP ops kk listed i = true) (hq : ∀ a, a = act rs → Qt P ops.toArray (fun _ => True) o v a) (hsub : listed.getD kk false = false → ∀ W, St M w0 W its → St M w0 W its0)
    (h : AS P f R M w0 its0 kk its k ops fuel (listed.setIfInBounds i true) (pt rs o.dst v)) : AS P f R M w0 its0 kk its k ops (fuel + 1) listed rs := by
  refine ⟨fun W S => ?_⟩
  rw [nth_eq] at hi
  simp only [tkP, Bool.and_eq_true, Bool.not_eq_true'] at ht
  obtain ⟨⟨⟨h1, h2⟩, h3⟩, h4⟩ := ht
  have hik : i ≠ kk := Nat.ne_of_beq_eq_false h4
  refine AB.firstP (S2 := SK M w0 its0 kk) (i := i) (oi := o) (v := v) (by simpa using hi) (Region.noSelect_spec h3) (fun c a w hp => hp) SK.up ?_ fuel listed (act rs) W (Region.free_spec (by simpa using hi) h2) (by simpa using h1) (hq _ rfl) ?_ ?_
  · intro l
    funext W'
    apply propext
    have e : (l.setIfInBounds i true).getD kk false = l.getD kk false := getD_set_ne false hik
    unfold SK
    rw [e]
  · rw [act_put]
    exact h.out W S
  · intro h0
    have e : (listed.setIfInBounds i true).getD kk false = listed.getD kk false := getD_set_ne false hik
    rw [e] at h0
    exact hsub h0 W S
def apOKP (P : Program) (ops : List Oper) (kk : Nat) : Nat → Nat → Array Bool → List Value → Bool
  | 0, _, _, _ => true
  | n + 1, i, listed, rs => match nth ops i with
    | some o => tkP ops kk listed i && (match stepR P ops rs o with
      | some rs' => apOKP P ops kk n (i + 1) (listed.setIfInBounds i true) rs'
      | none => false)
    | none => false
theorem a_pP (m : Nat) : ∀ (i : Nat) (fuel : Nat) (listed : Array Bool) (rs : List Value), (listed.getD kk false = false → its.take its0.length = its0) → AS P f R M w0 its0 kk its k ops fuel (marks m i listed) (pureR P ops m i rs) → apOKP P ops kk m i listed rs = true → AS P f R M w0 its0 kk its k ops (fuel + m) listed rs := by
  induction m with
  | zero => intro i fuel listed rs _ h _; exact h
  | succ m ih =>
    intro i fuel listed rs hn h hok
    simp only [apOKP] at hok
    simp only [pureR, marks] at h
    split at hok
    · rename_i o ho
      rw [ho] at h
      simp only [Bool.and_eq_true] at hok
      obtain ⟨ht, hok⟩ := hok
      simp only at h
      have hik : i ≠ kk := by
        simp only [tkP, Bool.and_eq_true, Bool.not_eq_true'] at ht
        exact Nat.ne_of_beq_eq_false ht.2
      have hn' : (listed.setIfInBounds i true).getD kk false = false → its.take its0.length = its0 := by
        rw [getD_set_ne false hik]
        exact hn
      have hsub : listed.getD kk false = false → ∀ W, St M w0 W its → St M w0 W its0 := fun h0 W S => by rw [← hn h0]; exact S.take _
      split at hok
      · rename_i rs' hs
        rw [hs] at h
        simp only at h
        have h2 := ih (i + 1) fuel (listed.setIfInBounds i true) rs' hn' h hok
        unfold stepR at hs
        split at hs
        · rename_i hgd
          split at hs
          · rename_i v hv
            obtain rfl := Option.some.inj hs
            refine a_firstP ho ht (fun a ha => ?_) hsub h2
            subst ha
            exact .inl ⟨gd_ok hgd, fun w _ => .inl (by rw [act_eval']; exact pureOp_run hv w)⟩
          · cases hs
        · rename_i hgd
          obtain rfl := Option.some.inj hs
          refine a_firstP (v := undef) ho ht (fun a ha => ?_) hsub h2
          subst ha
          exact .inr ⟨gd_wanted hgd, rfl⟩
        · cases hs
      · cases hok
    · cases hok
/-- As ap, whatever waits for these operations. -/
theorem apx (i m : Nat) (h : AS P f R M w0 its0 kk its k ops fuel (marks m i listed) (pureR P ops m i rs)) (hn : its.take its0.length = its0 := by rfl) (hok : apOKP P ops kk m i listed rs = true := by kernel_rfl) : AS P f R M w0 its0 kk its k ops (fuel + m) listed rs := a_pP m i fuel listed rs (fun _ => hn) h hok
theorem apy (i m : Nat) (h : AS P f R M w0 its0 kk its k ops fuel (marks m i listed) (pureR P ops m i rs)) (hk : listed.getD kk false = true := by kernel_rfl) (hok : apOKP P ops kk m i listed rs = true := by kernel_rfl) : AS P f R M w0 its0 kk its k ops (fuel + m) listed rs := a_pP m i fuel listed rs (fun h0 => by rw [hk] at h0; cases h0) h hok
end Go.Proofs.XC
namespace Go.Proofs.XC
open Go Go.RowKit
variable {P : Program} {f : FuncId} {fn : Func} {R : Ending → World → Prop} {M : Nat → Prop} {w0 W W2 : World} {its its0 its' : List Hold} {k : List Item} {rs : List Value} {ops : List Oper} {i kk fuel : Nat} {o : Oper} {listed : Array Bool} {α β : Type} {e : Enc α} {e' : Enc β}
/-! ### A row of rows that is handed in, and whose rows are written -/
theorem Rd.kept {W W' : World} {size n c : Nat} {A : Option Addr} {cs : List Value} (h : Rd W size (.slice A n c) n cs) (hs : W.heap.size ≤ W'.heap.size) (hk : ∀ k, k < W.heap.size → (Value.slice A n c).ownBlock = some k → W'.heap[k]? = W.heap[k]?) : Rd W' size (.slice A n c) n cs := by
  obtain ⟨A2, c2, h1, h2, h3, h3', h4⟩ := h
  injection h1 with e1 _ e3
  subst e1
  subst e3
  refine ⟨_, _, rfl, h2, h3, h3', fun hn => ?_⟩
  obtain ⟨b, off, e, hb, hc⟩ := h4 hn
  subst e
  refine ⟨b, off, rfl, Nat.lt_of_lt_of_le hb hs, fun j u hj => ?_⟩
  rw [← hc j u hj]
  exact World.cell?_of_block (hk b hb rfl)
abbrev inM (us : List Sl) : Nat → Prop := fun k => ∃ s ∈ us, s.v.ownBlock = some k
theorem s_argI {us : List Sl} {A : Option Addr} {c : Nat} (h : RdT eSl w0 (.slice A us.length c) us) (hM : ∀ k, (Value.slice A us.length c).ownBlock = some k → ¬ M k) : Src M w0 its eSl A c us :=
  ⟨fun W S => Rd.kept h S.size fun k hk ho => S.keep k hk (hM k ho)⟩
theorem callsWI {c : Code} {args : List Value} {B t : Nat} {us : List Sl} {ls : List (List α)} (hd : Inn e B t w0 us ls) (hf : P.funcs[f]? = some fn) (hb : fn.body = some c)
    (h : GS P f R (inM us) w0 [inns e B t us ls] [.code c] (args ++ List.replicate (fn.ntmps - args.length) undef)) : Calls P f args.toArray w0 R := by
  have S : St (inM us) w0 w0 [inns e B t us ls] := by
    refine ⟨rfl, rfl, rfl, Nat.le_refl _, fun _ _ _ => rfl, fun it hi => ?_, by simp⟩
    rw [List.mem_singleton] at hi
    subst hi
    refine ⟨inns_good _ _ _ _ _, hd, fun k hk => ⟨.inr hk, ?_⟩⟩
    obtain ⟨s, hs, hk⟩ := hk
    obtain ⟨i, hi⟩ := List.mem_iff_getElem?.1 hs
    have hlt : i < ls.length := by
      have := (List.getElem?_eq_some_iff.1 hi).1
      rw [hd.len] at this
      exact this
    have hk' : (Value.slice s.A (ls[i]).length s.c).ownBlock = some k := by
      rw [own_any (n' := s.n) (c' := s.c)]
      exact hk
    exact ((hd.row i s _ hi (List.getElem?_eq_getElem hlt)).2.lt k hk').2
  exact G.calls hf hb (by simpa using h.out w0 S)
theorem Inn.set {B t : Nat} {W W' : World} {us : List Sl} {ls : List (List α)} {z : Int} {s : Sl} {l l' : List α} (h : Inn e B t W us ls) (hs : getI us z = some s) (hl : getI ls z = some l) (hlen : l'.length = l.length)
    (hr : W'.ownsRow B t e.sz (.slice s.A l.length s.c) l.length (e.flat l')) (hk : ∀ k, k < W.heap.size → s.v.ownBlock ≠ some k → W'.heap[k]? = W.heap[k]?) : Inn e B t W' us (ls.set z.toNat l') := by
  have hz := (getI_some hs).2.2
  have hlz := (getI_some hl).2.2
  refine ⟨by rw [List.length_set]; exact h.len, fun i q m hq hm => ?_, h.apart⟩
  by_cases hi : i = z.toNat
  · subst hi
    rw [hz] at hq
    obtain rfl := Option.some.inj hq
    rw [List.getElem?_set_self (List.getElem?_eq_some_iff.1 hlz).1] at hm
    obtain rfl := Option.some.inj hm
    obtain ⟨h1, _⟩ := h.row _ s l hz hlz
    exact ⟨by rw [h1, hlen], by rw [hlen]; exact hr⟩
  · rw [List.getElem?_set_ne (Ne.symm hi)] at hm
    obtain ⟨h1, h2⟩ := h.row i q m hq hm
    refine ⟨h1, row_good B t e.sz (.slice q.A m.length q.c) m.length (e.flat m) W W' (fun k hk' => hk k (h2.lt k hk').2 ?_) h2⟩
    have hq' : q.v.ownBlock = some k := by
      unfold Sl.v
      rw [own_any (n' := m.length) (c' := q.c)]
      exact hk'
    exact h.apart i z.toNat q s k hi hq hz hq'
theorem e_cwi {c : Call} {d : Option Tmp} {g : FuncId} {gfn : Func} {t B : Nat} {us : List Sl} {ls : List (List α)} {z : Int} {s : Sl} {l l' : List α} {v : Value} (j : Nat) (args : List Value) (hs : getI us z = some s) (hl : getI ls z = some l) (hgf : P.funcs[g]? = some gfn)
    (hc : ∀ W, St M w0 W its → Calls P g args.toArray W (RetW e B t s.A l.length s.c W l' v))
    {K : List Hold → List Value → Prop} (h : K (sh its j (inns e B t us (ls.set z.toNat l'))) (pt rs d v)) (hj : nh its j = some (inns e B t us ls) := by rfl)
    (hop : o.op = .call c := by rfl) (hd : o.dst = d := by rfl) (hcal : c.callee = .value (.func g) := by rfl)
    (hb : gfn.body.isNone = false := by rfl) (hn : (gfn.name == "runtime.NumGoroutine") = false := by kernel_rfl) (ha : c.args.toList.map (ev rs) = args := by kernel_rfl) : Ex P M w0 its o rs K := by
  refine .enter (g := g) (args := args) fun W S => ⟨run_call (fst := #[]) (caps := #[]) hop hcal (x := .func g) rfl hgf hb hn (by simpa using ha) W, (hc W S).mono ?_⟩
  rintro en W' ⟨rfl, hl', hown, hgr⟩
  refine ⟨_, sh its j (inns e B t us (ls.set z.toNat l')), rfl, ?_, by rw [hd]; exact h⟩
  rw [nh_eq] at hj
  rw [sh_eq]
  have hin : Inn e B t W us ls := S.get hj
  have ho : ∀ k, (Value.slice s.A l.length s.c).ownBlock = some k ↔ s.v.ownBlock = some k := fun k => by
    unfold Sl.v
    rw [own_any (n' := s.n) (c' := s.c)]
  have hin' := hin.set hs hl hl' hown fun k hk hne => hgr.block k hk fun e1 => hne ((ho k).1 e1.symm)
  refine S.upd hj hgr.os hgr.tape hgr.output hgr.size (fun k hk hne => hgr.block k hk fun e1 => hne ⟨s, List.mem_of_getElem? (getI_some hs).2.2, (ho k).1 e1.symm⟩) (inns_good _ _ _ _ _) hin' fun k hk => ⟨.inl hk, ?_⟩
  exact Nat.lt_of_lt_of_le (S.own hj k hk).2 hgr.size
theorem St.retWD {B t : Nat} {us : List Sl} {ls : List (List α)} {v : Value} (S : St (inM us) w0 W its) (h : nh its 0 = some (inns e B t us ls) := by rfl) : RetWD e B t us w0 ls v (.returned v) W :=
  ⟨rfl, S.inn 0 h, S.os, S.tape, S.output, S.size, fun k hk hn => S.keep k hk hn⟩
theorem St.apD {B B2 t ti : Nat} {A : Option Addr} {c : Nat} {us us2 : List Sl} {ls : List (List α)} (S : St M w0 W its) (j q : Nat) (hjq : j ≠ q) (hj : nh its j = some (rowT eSl B t (.slice A us2.length c) us2) := by rfl) (hq : nh its q = some (inns e B2 ti us ls) := by rfl) :
    ∀ k, (Value.slice A us2.length c).ownBlock = some k → ¬ ∃ s ∈ us, s.v.ownBlock = some k := by
  rw [nh_eq] at hj hq
  exact fun k h1 h2 => S.two hjq hj hq k h1 h2
end Go.Proofs.XC
namespace Go.Proofs.XC
open Go Go.RowKit
variable {P : Program} {f : FuncId} {fn : Func} {R : Ending → World → Prop} {M : Nat → Prop} {w0 W W2 : World} {its its0 its' : List Hold} {k : List Item} {rs : List Value} {ops : List Oper} {i kk fuel : Nat} {o : Oper} {listed : Array Bool} {α β : Type} {e : Enc α} {e' : Enc β}
variable {K : List Hold → List Value → Prop}
/-! ### A row is written, and its front is the result -/
abbrev RetC (e : Enc α) (B t : Nat) (A : Option Addr) (cp : Nat) (w : World) (l : List α) : Ending → World → Prop := fun en W' => en = .returned (.slice A l.length cp) ∧ W'.ownsRow B t e.sz (.slice A l.length cp) l.length (e.flat l) ∧ w.grownBy W' (Value.slice A l.length cp).ownBlock
theorem e_cwc {c : Call} {d : Option Tmp} {g : FuncId} {gfn : Func} {t B : Nat} {A : Option Addr} {cp : Nat} {l l' : List α} (j : Nat) (args : List Value) (hgf : P.funcs[g]? = some gfn)
    (hc : ∀ W, St M w0 W its → Calls P g args.toArray W (RetC e B t A cp W l'))
    (h : K (sh its j (rowT e B t (.slice A l'.length cp) l')) (pt rs d (.slice A l'.length cp)))
    (hj : nh its j = some (rowT e B t (.slice A l.length cp) l) := by rfl)
    (hop : o.op = .call c := by rfl) (hd : o.dst = d := by rfl) (hcal : c.callee = .value (.func g) := by rfl)
    (hb : gfn.body.isNone = false := by rfl) (hn : (gfn.name == "runtime.NumGoroutine") = false := by kernel_rfl) (ha : c.args.toList.map (ev rs) = args := by kernel_rfl) : Ex P M w0 its o rs K := by
  refine .enter (g := g) (args := args) fun W S => ⟨run_call (fst := #[]) (caps := #[]) hop hcal (x := .func g) rfl hgf hb hn (by simpa using ha) W, (hc W S).mono ?_⟩
  rintro en W' ⟨rfl, hown, hgr⟩
  rw [nh_eq] at hj
  refine ⟨_, sh its j (rowT e B t (.slice A l'.length cp) l'), rfl, ?_, by rw [hd]; exact h⟩
  rw [sh_eq]
  have ho : ∀ k, (Value.slice A l'.length cp).ownBlock = some k ↔ (Value.slice A l.length cp).ownBlock = some k := fun k => by rw [own_any (n' := l.length) (c' := cp)]
  refine S.upd hj hgr.os hgr.tape hgr.output hgr.size (fun k hk hne => hgr.block k hk fun e1 => hne ((ho k).1 e1.symm)) (rowT_good _ _ _ _) hown ?_
  intro k hk
  have hk' : (Value.slice A l'.length cp).ownBlock = some k := hk
  exact ⟨.inl ((ho k).1 hk'), (hown.lt k hk').2⟩
theorem flat_str (l : List Str) : eS.flat l = l.map encStr := by
  induction l with
  | nil => rfl
  | cons x l ih => 
    have : eS.flat (x :: l) = .string (bs x) :: eS.flat l := rfl
    rw [this, ih]
    rfl
end Go.Proofs.XC
namespace Go.Proofs.XC
open Go Go.RowKit
/-! ### What comes in, opened -/
section
variable {P : Program} {α : Type} {e : Enc α} {ok : α → Prop} {H : Type} {enc : TypeId × Value → H} {W : World} {fuel : Nat} {cs : List Value} {d : DataW H} {ps : List MemPlace}
/-- What reads as data of type t stands in cells as an x. -/
def Opens (P : Program) (t : TypeId) (e : Enc α) (ok : α → Prop) : Prop :=
  ∀ (H : Type) (enc : TypeId × Value → H) (W : World) (fuel : Nat) (cs : List Value) (d : DataW H) (ps : List MemPlace),
    DataW.trod enc P W 0 (fun _ => true) true fuel t cs = some (d, ps) → ∃ x, cs = e.E x ∧ ok x
def okI (x : Int) : Prop := -9223372036854775808 ≤ x ∧ x ≤ 9223372036854775807
def okY (x : Int) : Prop := 0 ≤ x ∧ x ≤ 255
def okB (_ : Bool) : Prop := True
def okS (s : Str) : Prop := s.length ≤ 9223372036854775807
theorem opens_i64 {t : TypeId} (ht : P.underlying t = some (.int .i64)) : Opens P t (eI .i64) okI := by
  intro H enc W fuel cs d ps h
  obtain ⟨n, rfl, _, hw⟩ := DataW.trod_int ht h
  refine ⟨n, rfl, ?_⟩
  simp [Lit.wf, IntKind.has, IntKind.min, IntKind.max, IntKind.bits, IntKind.signed] at hw
  unfold okI
  omega
theorem opens_u8 {t : TypeId} (ht : P.underlying t = some (.int .u8)) : Opens P t (eI .u8) okY := by
  intro H enc W fuel cs d ps h
  obtain ⟨n, rfl, _, hw⟩ := DataW.trod_int ht h
  refine ⟨n, rfl, ?_⟩
  simp [Lit.wf, IntKind.has, IntKind.min, IntKind.max, IntKind.bits, IntKind.signed] at hw
  unfold okY
  omega
theorem opens_bool {t : TypeId} (ht : P.underlying t = some .bool) : Opens P t eB okB := by
  intro H enc W fuel cs d ps h
  obtain ⟨b, rfl, _⟩ := DataW.trod_bool ht h
  exact ⟨b, rfl, trivial⟩
theorem opens_str {t : TypeId} (ht : P.underlying t = some .string) : Opens P t eS okS := by
  intro H enc W fuel cs d ps h
  obtain ⟨s, rfl, _, hs⟩ := DataW.trod_string ht h
  refine ⟨s.data.toList, ?_, ?_⟩
  · show [Value.string s] = [Value.string (bs s.data.toList)]
    rfl
  · unfold okS
    have : s.data.toList.length = s.size := Array.length_toList
    rw [this]
    simp only [maxLen] at hs
    exact hs
/-! Structs -/
def fieldD (P : Program) (t : TypeId) (i : Nat) : Option (TypeId × Nat) :=
  match P.underlying t with
  | some (.struct fs) => (fs.toList[i]?).map fun f => (f.type, f.offset)
  | _ => none
theorem open_len {t : TypeId} {i : Nat} {q : TypeId × Nat} (h : DataW.trod enc P W 0 (fun _ => true) true fuel t cs = some (d, ps)) (hf : fieldD P t i = some q) {n : Nat} (hn : P.cellsOf t = n) : cs.length = n := by
  unfold fieldD at hf
  split at hf
  · rename_i fs hu
    obtain ⟨_, _, _, _, hl, _⟩ := DataW.trod_struct hu h
    rw [hl, hn]
  · cases hf
theorem open_field {t : TypeId} (i ty off : Nat) (h : DataW.trod enc P W 0 (fun _ => true) true fuel t cs = some (d, ps)) (hO : Opens P ty e ok) (hf : fieldD P t i = some (ty, off) := by kernel_rfl) (hs : P.cellsOf ty = e.sz := by kernel_rfl) :
    ∃ x, (cs.drop off).take e.sz = e.E x ∧ ok x := by
  unfold fieldD at hf
  split at hf
  · rename_i fs hu
    obtain ⟨xs, n, _, _, _, hxl, hall⟩ := DataW.trod_struct hu h
    obtain ⟨f, hf1, hf2⟩ := Option.map_eq_some_iff.1 hf
    simp only [Prod.mk.injEq] at hf2
    obtain ⟨rfl, rfl⟩ := hf2
    have hf3 : fs[i]? = some f := by simpa using hf1
    have hi : i < fs.size := (Array.getElem?_eq_some_iff.1 hf3).1
    have := hall i f hf3
    rw [List.getElem?_eq_getElem (by omega)] at this
    rw [hs] at this
    exact hO H enc W n _ _ _ this
  · cases hf
theorem glue {cs x y : List Value} {a s : Nat} (h1 : (cs.drop a).take s = x) (h2 : cs.drop (a + s) = y) : cs.drop a = x ++ y := by
  rw [← h1, ← h2, ← List.drop_drop, List.take_append_drop]
theorem glueE {cs x : List Value} {a s : Nat} (h1 : (cs.drop a).take s = x) (h : cs.length ≤ a + s) : cs.drop a = x := by
  rw [← h1, List.take_of_length_le]
  rw [List.length_drop]
  omega
theorem glue0 {cs x : List Value} (h : cs.drop 0 = x) : cs = x := h
/-! Slices -/
def okL {α : Type} (ok : α → Prop) (l : List α) : Prop := l.length ≤ 9223372036854775807 ∧ ∀ x ∈ l, ok x
theorem cell_lt {w : World} {a : Addr} {v : Value} (h : w.cell? a = some v) : a.block < w.heap.size := by
  unfold World.cell? at h
  split at h
  · rename_i hc
    exact (Array.getElem?_eq_some_iff.1 hc).1
  · cases h
theorem open_slice {t el : TypeId} {A : Option Addr} {len cap : Nat} (ht : P.underlying t = some (.slice el)) (hO : Opens P el e ok) (h : DataW.trod enc P W 0 (fun _ => true) true fuel t [.slice A len cap] = some (d, ps)) (hs : P.cellsOf el = e.sz := by kernel_rfl) :
    ∃ l, l.length = len ∧ RdT e W (.slice A len cap) l ∧ okL ok l := by
  rcases DataW.trod_slice ht h with ⟨h1, _⟩ | ⟨a, len2, cap2, elems, rest, n, _, h1, _, _, hl, hc, hlen, hall, _⟩
  · simp only [List.cons.injEq, Value.slice.injEq, and_true] at h1
    obtain ⟨rfl, rfl, rfl⟩ := h1
    exact ⟨[], rfl, ⟨none, 0, rfl, by simp [Enc.flat], by simp, by simp, fun h => by simp at h⟩, by simp [okL]⟩
  · simp only [List.cons.injEq, Value.slice.injEq, and_true] at h1
    obtain ⟨rfl, rfl, rfl⟩ := h1
    have key : ∀ m, m ≤ len → ∃ l : List α, l.length = m ∧ (∀ x ∈ l, ok x) ∧ ∀ i x, l[i]? = some x → W.cells? 0 (a.add (i * e.sz)) e.sz = some (e.E x) := by
      intro m
      induction m with
      | zero => exact fun _ => ⟨[], rfl, (fun x hx => by cases hx), (fun i x hx => by simp at hx)⟩
      | succ m ih =>
        intro hm
        obtain ⟨l, hl1, hl2, hl3⟩ := ih (by omega)
        have h1 := hall m (by omega)
        rw [List.getElem?_eq_getElem (by omega), hs] at h1
        obtain ⟨cs, hcs, htr⟩ := Option.bind_eq_some_iff.1 h1
        obtain ⟨x, rfl, hx⟩ := hO H enc W n cs _ _ htr
        refine ⟨l ++ [x], by simp [hl1], fun y hy => ?_, fun i y hy => ?_⟩
        · rcases List.mem_append.1 hy with hy | hy
          · exact hl2 y hy
          · rw [List.mem_singleton] at hy; rw [hy]; exact hx
        · rcases Nat.lt_or_ge i l.length with hi | hi
          · rw [List.getElem?_append_left hi] at hy
            exact hl3 i y hy
          · rw [List.getElem?_append_right hi] at hy
            have hi2 : i - l.length = 0 := by
              have := (List.getElem?_eq_some_iff.1 hy).1
              simp at this
              omega
            rw [hi2] at hy
            simp only [List.getElem?_cons_zero, Option.some.injEq] at hy
            subst hy
            have him : i = m := by omega
            rw [him]
            exact hcs
    obtain ⟨l, hl1, hl2, hl3⟩ := key len (Nat.le_refl _)
    refine ⟨l, hl1, ⟨some a, cap, by rw [hl1], e.flat_length l, ?_, by rw [hl1]; exact hl, fun hpos => ?_⟩, ⟨by simp only [maxLen] at hc; omega, hl2⟩⟩
    · simp only [maxLen] at hc
      omega
    · have hcell : ∀ i j x u, l[i]? = some x → (e.E x)[j]? = some u → W.cell? ((a.add (i * e.sz)).add j) = some u := by
        intro i j x u hx hu
        obtain ⟨_, hlen2, hget⟩ := World.cells?_some (hl3 i x hx)
        have hj : j < e.sz := by have := (List.getElem?_eq_some_iff.1 hu).1; rw [e.len] at this; exact this
        have := hget j hj
        rw [hu] at this
        exact this
      obtain ⟨x0, hx0⟩ : ∃ x, l[0]? = some x := ⟨_, List.getElem?_eq_getElem hpos⟩
      obtain ⟨u0, hu0⟩ : ∃ u, (e.E x0)[0]? = some u := ⟨_, List.getElem?_eq_getElem (by rw [e.len]; exact e.pos)⟩
      have h0 := hcell 0 0 x0 u0 hx0 hu0
      simp only [Nat.zero_mul, Addr.add, if_true] at h0
      have hspot : a.spot = none := by
        unfold World.cell? at h0
        split at h0
        · cases hsp : a.spot with
          | none => rfl
          | some s => simp [hsp] at h0
        · cases h0
      obtain ⟨b, off, spot⟩ := a
      simp only at hspot
      subst hspot
      refine ⟨b, off, rfl, cell_lt h0, fun q u hq => ?_⟩
      have hql : q < l.length * e.sz := by have := (List.getElem?_eq_some_iff.1 hq).1; rw [e.flat_length] at this; exact this
      have hi : q / e.sz < l.length := (Nat.div_lt_iff_lt_mul e.pos).2 hql
      have hj : q % e.sz < e.sz := Nat.mod_lt _ e.pos
      have hx : l[q / e.sz]? = some l[q / e.sz] := List.getElem?_eq_getElem hi
      have hj2 : q % e.sz < (e.E l[q / e.sz]).length := by rw [e.len]; exact hj
      have hu : (e.E l[q / e.sz])[q % e.sz]? = some (e.E l[q / e.sz])[q % e.sz] := List.getElem?_eq_getElem hj2
      have hf := e.flat_get hx hu
      have hq2 : q / e.sz * e.sz + q % e.sz = q := by rw [Nat.mul_comm]; exact Nat.div_add_mod q e.sz
      rw [hq2, hq] at hf
      have hc2 := hcell _ _ _ _ hx hu
      have hadd : ((⟨b, off, none⟩ : Addr).add (q / e.sz * e.sz)).add (q % e.sz) = ⟨b, off + q, none⟩ := by
        have ha : ∀ o k, (⟨b, o, none⟩ : Addr).add k = ⟨b, o + k, none⟩ := fun o k => by unfold Addr.add; split <;> simp_all
        rw [ha, ha, Nat.add_assoc, hq2]
      rw [hadd] at hc2
      rw [hc2]
      exact hf.symm
/-- What is one cell. -/
theorem str_inj {z : ByteArray} {a : Str} (h : (Value.string z).cells.toList = eS.E a) : Value.string z = .string (bs a) := (List.cons.inj h).1
theorem int_inj {k k' : IntKind} {z a : Int} (h : (Value.int k' z).cells.toList = (eI k).E a) : Value.int k' z = .int k a := (List.cons.inj h).1
theorem bool_inj {z a : Bool} (h : (Value.bool z).cells.toList = eB.E a) : Value.bool z = .bool a := (List.cons.inj h).1
end
end Go.Proofs.XC
