/- The contract of impl.Move.mirrored: letters l and r are exchanged (strings.NewReplacer, sync.Once within), for every text of at most 2^63 - 1 bytes. By AI agents; no person has read it. -/
import Derived.Test.YtjjhlccjfdcfcaaGreatDoorX
import Derived.Test.YtjjhlccjfdcfcaaGreatDoorShelf
import Derived.Tactics
import Derived.Tactics2
import Derived.Defers
import Derived.Laws.Pointers
import Derived.Laws.LoneSync
import Derived.RegionTactic
import Derived.RegionCalls
import Derived.ChangeAlike
import Derived.Laws.NewBlocks
set_option linter.unusedVariables false
set_option linter.unusedSimpArgs false
set_option maxRecDepth 100000
set_option maxHeartbeats 40000000
set_option maxHeartbeats 1600000
namespace Go.Proofs.XC

theorem disable (w : World) : (callFunc 272 #[]).run Tryz.prog w = .ok (.value (.tuple #[])) w := run_call_mark0 Tryz.func272 (by kernel_rfl) (by kernel_rfl) (by kernel_rfl) .disable (by kernel_rfl) w
theorem enable (w : World) : (callFunc 274 #[]).run Tryz.prog w = .ok (.value (.tuple #[])) w := run_call_mark0 Tryz.func274 (by kernel_rfl) (by kernel_rfl) (by kernel_rfl) .enable (by kernel_rfl) w
theorem acquire (a : Addr) (w : World) : (callFunc 275 #[.pointer (some a)]).run Tryz.prog w = .ok (.value (.tuple #[])) w := run_call_marked Tryz.func275 (by kernel_rfl) (by kernel_rfl) (by kernel_rfl) .acquire (by kernel_rfl) a w
theorem releaseMerge (a : Addr) (w : World) : (callFunc 277 #[.pointer (some a)]).run Tryz.prog w = .ok (.value (.tuple #[])) w := run_call_marked Tryz.func277 (by kernel_rfl) (by kernel_rfl) (by kernel_rfl) .releaseMerge (by kernel_rfl) a w

/-- '(*sync/atomic.Bool).Store(true)', ENTERED AS A DEFERRED CALL: the cell holds 1. -/
theorem store_deferred (a : Addr) (x : Value) (u : FrameMode) (w : World) (hc : w.cell? a = some x) (hz : w.frozen? a = false) :
    CallsD Tryz.prog 249 #[.pointer (some a), .bool true] u w fun e u' w' => u' = u ∧ (e = .returned (.tuple #[]) ∧ w' = w.drew.setCell a (.int .u32 1)) := by
  have hc' : w.drew.cell? a = some x := by go_simp
  have hz' : w.drew.frozen? a = false := by go_simp
  have hst := run_call_store (P := Tryz.prog) Tryz.func261 (by kernel_rfl) (by kernel_rfl) (by kernel_rfl) (by kernel_rfl) (k := .u32) (y := 1) hc' hz'
  go_enter_d Tryz.func249, Tryz.ntmps249
  go_wp2
  go_region_calls
  all_goals (go_end0; exact ⟨rfl, rfl⟩)

/-- '(*sync.Mutex).Unlock', ENTERED AS A DEFERRED CALL, the lock held and nobody waiting (state 1): state 0. -/
theorem unlock_deferred (a : Addr) (u : FrameMode) (w : World) (hc : w.cell? a = some (.int .i32 1)) (hz : w.frozen? a = false) :
    CallsD Tryz.prog 248 #[.pointer (some a)] u w fun e u' w' => u' = u ∧ (e = .returned (.tuple #[]) ∧ w' = w.setCell a (.int .i32 0)) := by
  have hd := disable
  have he := enable
  have hr := releaseMerge
  have hadd := run_call_add (P := Tryz.prog) Tryz.func278 (by kernel_rfl) (by kernel_rfl) (by kernel_rfl) .i32 (by kernel_rfl) (y := -1) (s := 0) hc hz (by simp [go_sem]; rfl)
  have hcv := run_convert_to_unsafe (P := Tryz.prog) (src := 294) (dst := 194) Tryz.underlying294 Tryz.underlying194 (by kernel_rfl) hc
  go_enter_d Tryz.func248, Tryz.ntmps248
  go_wp2
  go_end0
  go_wp2
  go_end0
  exact ⟨rfl, rfl⟩

/-- '(*sync.Mutex).Lock', the lock free (state 0): state 1. A CONTRACT, to be met at the call ('go_at_call 9'). -/
theorem lock_free (a : Addr) (w : World) (hc : w.cell? a = some (.int .i32 0)) (hz : w.frozen? a = false) :
    Calls Tryz.prog 247 #[.pointer (some a)] w fun e w' => e = .returned (.tuple #[]) ∧ w' = w.setCell a (.int .i32 1) := by
  have hd := disable
  have he := enable
  have ha := acquire
  have hcas := run_call_cas_hit (P := Tryz.prog) Tryz.func273 (by kernel_rfl) (by kernel_rfl) (by kernel_rfl) .i32 (by kernel_rfl) (y := 1) hc hz
  have hc' : (w.setCell a (.int .i32 1)).cell? a = some (.int .i32 1) := World.cell?_setCell_same w a _ hc
  have hcv := run_convert_to_unsafe (P := Tryz.prog) (src := 294) (dst := 194) Tryz.underlying294 Tryz.underlying194 (by kernel_rfl) hc'
  go_enter Tryz.func247, Tryz.ntmps247
  go_wp2
  first | go_end0 | (simp only [Exit.inBlock, Exit.then]; refine bodyPost_ret (results_none rfl _ _ _) rfl ?_) | refine bodyPost_ret (results_none rfl _ _ _) rfl ?_
  go_wp2
  go_end0
  exact ⟨rfl, rfl⟩
end Go.Proofs.XC
namespace Go.Proofs.XC
theorem slow (b : Nat) (w : World) (h0 : w.cell? ⟨b, 0, none⟩ = some (.int .u32 0)) (h1 : w.cell? ⟨b, 1, none⟩ = some (.int .i32 0)) (f0 : w.frozen? ⟨b, 0, none⟩ = false) (f1 : w.frozen? ⟨b, 1, none⟩ = false)
    (Q : World → Prop) (hQ : ∀ w', Q w' → w'.cell? ⟨b, 0, none⟩ = some (.int .u32 0) ∧ w'.cell? ⟨b, 1, none⟩ = some (.int .i32 1) ∧ w'.frozen? ⟨b, 0, none⟩ = false ∧ w'.frozen? ⟨b, 1, none⟩ = false)
    (hc : Calls Tryz.prog 218 #[.pointer (some ⟨b, 0, none⟩)] (w.setCell ⟨b, 1, none⟩ (.int .i32 1)) fun e w' => e = .returned (.tuple #[]) ∧ Q w') :
    Calls Tryz.prog 235 #[.pointer (some ⟨b, 0, none⟩), .func (.func 218) #[.pointer (some ⟨b, 0, none⟩)] #[]] w fun e w' => e = .returned (.tuple #[]) ∧
      ∃ w1, Q w1 ∧ w' = (w1.drew.setCell ⟨b, 0, none⟩ (.int .u32 1)).setCell ⟨b, 1, none⟩ (.int .i32 0) := by
  have hl := run_call_load (P := Tryz.prog) Tryz.func246 (by kernel_rfl) (by kernel_rfl) (by kernel_rfl) .u32 (by kernel_rfl) (w := w.setCell ⟨b, 1, none⟩ (.int .i32 1)) (a := ⟨b, 0, none⟩) (x := 0) ((World.cell?_setCell_other _ ⟨b, 1, none⟩ ⟨b, 0, none⟩ _ (by simp)).trans h0)
  have hnot : ∀ (x : Bool) (w : World), (Op.unary .not (.bool x)).run Tryz.prog w = .ok (.bool (!x)) w := fun _ _ => rfl
  go_enter_defers Tryz.func235, Tryz.ntmps235
  go_wp2_with (first | (go_at_call 247; refine (lock_free ⟨b, 1, none⟩ _ (by go_simp) (by go_simp)).mono ?_; rintro e w' ⟨rfl, rfl⟩) | (go_at_call 234; go_in) | (go_at_call 218; refine hc.mono ?_; rintro e w1 ⟨rfl, hq⟩))
  obtain ⟨q0, q1, q2, q3⟩ := hQ _ hq
  refine leaves_cons (f := 249) (args := #[.pointer (some ⟨b, 0, none⟩), .bool true]) (by simp) (by simp [go_sem]) ?_
  refine (store_deferred ⟨b, 0, none⟩ (.int .u32 0) .returning _ ?_ (by simp [q2])).mono ?_
  · exact q0
  rintro e u' w'' ⟨rfl, rfl, rfl⟩
  refine leaves_cons (f := 248) (args := #[.pointer (some ⟨b, 1, none⟩)]) (by simp [settle]) (by simp [go_sem]) ?_
  refine (unlock_deferred ⟨b, 1, none⟩ _ _ ?_ (by simp [q3])).mono ?_
  · refine (World.cell?_setCell_other _ ⟨b, 0, none⟩ ⟨b, 1, none⟩ _ (by simp)).trans ?_
    rw [World.cell?_drew]
    exact q1
  rintro e u' w'' ⟨rfl, rfl, rfl⟩
  simp [Leaves, settle, results, Tryz.results267]
  exact ⟨w1, hq, rfl⟩
theorem do_first (b : Nat) (w : World) (h0 : w.cell? ⟨b, 0, none⟩ = some (.int .u32 0)) (h1 : w.cell? ⟨b, 1, none⟩ = some (.int .i32 0)) (f0 : w.frozen? ⟨b, 0, none⟩ = false) (f1 : w.frozen? ⟨b, 1, none⟩ = false)
    (Q : World → Prop) (hQ : ∀ w', Q w' → w'.cell? ⟨b, 0, none⟩ = some (.int .u32 0) ∧ w'.cell? ⟨b, 1, none⟩ = some (.int .i32 1) ∧ w'.frozen? ⟨b, 0, none⟩ = false ∧ w'.frozen? ⟨b, 1, none⟩ = false)
    (hc : Calls Tryz.prog 218 #[.pointer (some ⟨b, 0, none⟩)] (w.setCell ⟨b, 1, none⟩ (.int .i32 1)) fun e w' => e = .returned (.tuple #[]) ∧ Q w') :
    Calls Tryz.prog 217 #[.pointer (some ⟨b, 0, none⟩), .func (.func 218) #[.pointer (some ⟨b, 0, none⟩)] #[]] w fun e w' => e = .returned (.tuple #[]) ∧
      ∃ w1, Q w1 ∧ w' = (w1.drew.setCell ⟨b, 0, none⟩ (.int .u32 1)).setCell ⟨b, 1, none⟩ (.int .i32 0) := by
  have hl := run_call_load (P := Tryz.prog) Tryz.func246 (by kernel_rfl) (by kernel_rfl) (by kernel_rfl) .u32 (by kernel_rfl) h0
  have hnot : ∀ (x : Bool) (w : World), (Op.unary .not (.bool x)).run Tryz.prog w = .ok (.bool (!x)) w := fun _ _ => rfl
  go_enter Tryz.func217, Tryz.ntmps217
  go_wp2_with (first | (go_at_call 235; refine (slow b _ h0 h1 f0 f1 Q hQ hc).mono ?_; rintro e w' ⟨rfl, hq⟩) | (go_at_call 234; go_in))
  go_end0
  exact ⟨rfl, hq⟩
end Go.Proofs.XC
namespace Go.Proofs.XC
open Go Go.RowKit
open Tryz
theorem c_loop {P : Program} {f : FuncId} {R : Ending → World → Prop} {M : Nat → Prop} {w0 : World} {its : List Hold} {k : List Item} {rs : List Value} {c : Code} (h : GS P f R M w0 its (.code c :: .inLoop c :: k) rs) : GS P f R M w0 its (.code (.loop c) :: k) rs := ⟨fun W S => .loop (h.out W S)⟩
def pairs4 : List Str := [[108], [114], [114], [108]]
def idT (j : Nat) : List Int := (List.range 256).map fun n => if n < j then (n : Int) else 0
def swT : List Int := (List.range 256).map fun (n : Nat) => if n = 108 then (114 : Int) else if n = 114 then (108 : Int) else (n : Int)
theorem idT_len (j : Nat) : (idT j).length = 256 := by simp [idT]
theorem idT_set (j : Nat) (h : j < 256) : (idT j).set j (j : Int) = idT (j + 1) := by
  unfold idT
  apply List.ext_getElem?
  intro n
  by_cases hn : j = n
  · subst hn
    rw [List.getElem?_set_self (by simp; omega)]
    simp [h]
  · rw [List.getElem?_set_ne hn]
    by_cases h2 : n < 256
    · simp only [List.getElem?_map, List.getElem?_range h2, Option.map_some, Option.some.injEq]
      by_cases h3 : n < j
      · rw [if_pos h3, if_pos (by omega)]
      · rw [if_neg h3, if_neg (by omega)]
    · rw [List.getElem?_eq_none (by simp; omega), List.getElem?_eq_none (by simp; omega)]
theorem idT_sw : ((idT 256).set 114 108).set 108 114 = swT := by decide +kernel
end Go.Proofs.XC
namespace Go.Proofs.XC
open Go Go.RowKit
open Tryz
theorem St.join {M : Nat → Prop} {w0 W W' : World} {its its' : List Hold} (S : St M w0 W its) (S' : St no W W' its') : St M w0 W' (its ++ its') := by
  have F := S.frame S'.below
  refine ⟨F.os, F.tape, F.output, F.size, F.keep, fun x hx => ?_, ?_⟩
  · rcases List.mem_append.1 hx with hx | hx
    · exact F.all x hx
    · obtain ⟨h1, h2, h3⟩ := S'.all x hx
      refine ⟨h1, h2, fun k hk => ⟨.inl ?_, (h3 k hk).2⟩⟩
      rcases (h3 k hk).1 with h | h
      · exact Nat.le_trans S.size h
      · exact h.elim
  · rw [List.pairwise_append]
    refine ⟨S.apart, S'.apart, fun x hx y hy k hk hk' => ?_⟩
    have h1 := ((S.all x hx).2.2 k hk).2
    rcases ((S'.all y hy).2.2 k hk').1 with h | h
    · omega
    · exact h.elim
section
variable {P : Program} {M : Nat → Prop} {w0 : World} {its : List Hold} {rs : List Value} {o : Oper} {K : List Hold → List Value → Prop}
/-- A call that brings new items. -/
theorem e_cits {Q : Type} {c : Call} {d : Option Tmp} {g : FuncId} {gfn : Func} (args : List Value) (res : Q → Value) (mk : Q → List Hold) (hgf : P.funcs[g]? = some gfn)
    (hc : ∀ W, St M w0 W its → Calls P g args.toArray W fun e W' => ∃ q, e = .returned (res q) ∧ St no W W' (mk q))
    (h : ∀ q, K (its ++ mk q) (pt rs d (res q)))
    (hop : o.op = .call c := by rfl) (hd : o.dst = d := by rfl) (hcal : c.callee = .value (.func g) := by rfl)
    (hb : gfn.body.isNone = false := by rfl) (hn : (gfn.name == "runtime.NumGoroutine") = false := by kernel_rfl) (ha : c.args.toList.map (ev rs) = args := by kernel_rfl) : Ex P M w0 its o rs K := by
  refine .enter (g := g) (args := args) fun W S => ⟨run_call (fst := #[]) (caps := #[]) hop hcal (x := .func g) rfl hgf hb hn (by simpa using ha) W, (hc W S).mono ?_⟩
  rintro e W' ⟨q, rfl, S'⟩
  exact ⟨_, its ++ mk q, rfl, S.join S', by rw [hd]; exact h q⟩
end
def tabI (g : Nat) (l : List Int) : Hold := box g 253 ((eI .u8).flat l)
theorem swT_len : swT.length = 256 := by simp [swT]
theorem build_c {b : Nat} {A : Option Addr} {k : Nat} {cs : List Value} (w : World) (hb : w.heap[b]? = some (.cells cs.toArray 219 (0, 0))) (hcs : rdC prog 77 4 cs = some (.slice A 4 k)) (hA : RdT eS w (.slice A (List.length pairs4) k) pairs4) :
    Calls prog 236 #[.pointer (some ⟨b, 0, none⟩)] w fun e W' => ∃ g, e = .returned (.iface 254 (.pointer (some ⟨g, 0, none⟩))) ∧ St no w W' [tabI g swT] := by
  refine calls (M := no) (args := [.pointer (some ⟨b, 0, none⟩)]) func236 rfl ?_
  have sA : ∀ its, Src no w its eS A k pairs4 := fun its => s_arg hA
  repeat refine c_seq ?_
  refine r_start ?_
  refine p 1 ?_
  refine rend ?_
  repeat refine c_seq ?_
  refine r_start ?_
  refine p 3 ?_
  refine xq rfl (y_ld0 (.slice A 4 k) b 4 hb (hv := hcs)) ?_
  refine p 1 ?_
  refine rend ?_
  repeat refine c_seq ?_
  refine r_start ?_
  refine p 10 ?_
  refine rend ?_
  repeat refine c_seq ?_
  refine c_f (by kernel_rfl) ?_
  refine c_skip ?_
  repeat refine c_seq ?_
  refine r_start ?_
  refine p 1 ?_
  refine rend ?_
  repeat refine c_seq ?_
  refine r_start ?_
  refine p 1 ?_
  refine rend ?_
  repeat refine c_seq ?_
  refine c_block ?_
  refine c_loop ?_
  repeat refine c_seq ?_
  refine r_start ?_
  refine p 4 ?_
  refine rend ?_
  repeat refine c_seq ?_
  refine c_t (by kernel_rfl) ?_
  refine c_skip ?_
  repeat refine c_seq ?_
  refine c_block ?_
  repeat refine c_seq ?_
  refine r_start ?_
  refine p 2 ?_
  refine xq rfl (y_idx (e := eS) (el := 9) (z := 0) (y := [108]) rfl (sA _)) ?_
  refine xq rfl (y_el (e := eS) (z := 0) (y := [108]) 0 (.string (bs [108])) rfl (sA _)) ?_
  refine p 2 ?_
  refine rend ?_
  repeat refine c_seq ?_
  refine c_f (by kernel_rfl) ?_
  refine c_skip ?_
  repeat refine c_seq ?_
  refine r_start ?_
  refine p 3 ?_
  refine xq rfl (y_idx (e := eS) (el := 9) (z := 1) (y := [114]) rfl (sA _)) ?_
  refine xq rfl (y_el (e := eS) (z := 1) (y := [114]) 0 (.string (bs [114])) rfl (sA _)) ?_
  refine p 2 ?_
  refine rend ?_
  repeat refine c_seq ?_
  refine c_f (by kernel_rfl) ?_
  refine c_skip ?_
  refine c_inb ?_
  repeat refine c_seq ?_
  refine r_start ?_
  refine p 3 ?_
  refine rend ?_
  refine c_inl ?_
  repeat refine c_seq ?_
  refine r_start ?_
  refine p 4 ?_
  refine rend ?_
  repeat refine c_seq ?_
  refine c_t (by kernel_rfl) ?_
  refine c_skip ?_
  repeat refine c_seq ?_
  refine c_block ?_
  repeat refine c_seq ?_
  refine r_start ?_
  refine p 2 ?_
  refine xq rfl (y_idx (e := eS) (el := 9) (z := 2) (y := [114]) rfl (sA _)) ?_
  refine xq rfl (y_el (e := eS) (z := 2) (y := [114]) 0 (.string (bs [114])) rfl (sA _)) ?_
  refine p 2 ?_
  refine rend ?_
  repeat refine c_seq ?_
  refine c_f (by kernel_rfl) ?_
  refine c_skip ?_
  repeat refine c_seq ?_
  refine r_start ?_
  refine p 3 ?_
  refine xq rfl (y_idx (e := eS) (el := 9) (z := 3) (y := [108]) rfl (sA _)) ?_
  refine xq rfl (y_el (e := eS) (z := 3) (y := [108]) 0 (.string (bs [108])) rfl (sA _)) ?_
  refine p 2 ?_
  refine rend ?_
  repeat refine c_seq ?_
  refine c_f (by kernel_rfl) ?_
  refine c_skip ?_
  refine c_inb ?_
  repeat refine c_seq ?_
  refine r_start ?_
  refine p 3 ?_
  refine rend ?_
  refine c_inl ?_
  repeat refine c_seq ?_
  refine r_start ?_
  refine p 4 ?_
  refine rend ?_
  repeat refine c_seq ?_
  refine c_f (by kernel_rfl) ?_
  refine cx ?_
  repeat refine c_seq ?_
  refine r_start ?_
  refine p 1 ?_
  refine rend ?_
  repeat refine c_seq ?_
  refine c_t (by kernel_rfl) ?_
  repeat refine c_seq ?_
  refine r_start ?_
  refine p 1 ?_
  refine xx rfl (x_new ((eI .u8).flat (idT 0)) fun g => ?_)
  refine xx rfl (x_sto 0 g 0 ((eI .u8).flat (idT 0)) ?_)
  refine rend ?_
  repeat refine c_seq ?_
  refine r_start ?_
  refine p 1 ?_
  refine rend ?_
  repeat refine c_seq ?_
  refine c_block ?_
  refine loop (X := Nat) (fun j => 256 - j) (fun j => j ≤ 256) (fun j => [tabI g (idT j)]) (fun j u => jk u 0 3 (.slice A 4 k :: jk u 4 2 (.pointer (some ⟨g, 0, none⟩) :: jk u 7 54 (.int .i64 (j : Int) :: jk u 62 70 [])))) 0 (Nat.zero_le _) (by kernel_rfl) (by kernel_rfl) ?_
  intro j u hj back
  repeat refine c_seq ?_
  refine r_start ?_
  refine p 1 ?_
  refine rend ?_
  repeat refine c_seq ?_
  refine c_or (decide ((j : Int) < 256)) (fun q => ?_) (fun q => ?_)
  · have hlt : j < 256 := by
      have := of_decide_eq_true q
      omega
    refine c_skip ?_
    repeat refine c_seq ?_
    refine c_block ?_
    repeat refine c_seq ?_
    refine r_start ?_
    refine p 2 ?_
    refine rend ?_
    repeat refine c_seq ?_
    refine r_start ?_
    refine p 3 ?_
    refine o_set 66 (v := .int .u8 (IntKind.u8.wrap (j : Int))) (v' := .int .u8 (j : Int)) (by rw [show IntKind.u8.wrap (j : Int) = (j : Int) from by unfold IntKind.wrap; simp [IntKind.bits, IntKind.signed]; omega]) ?_
    refine xq rfl (y_arpk (kd := .i64) (e := eI .u8) (el := 5) (g := g) (z := (j : Int)) (l := idT j) (by omega) (by rw [idT_len]; omega)) ?_
    refine xx rfl (e_star (e := eI .u8) (z := j) (a := 0) (b := (j : Int)) (l := idT j) 0 (by simp [idT, hlt]) ?_)
    refine rend ?_
    refine c_inb ?_
    repeat refine c_seq ?_
    refine r_start ?_
    refine p 2 ?_
    refine rend ?_
    refine c_set 61 (v := .int .i64 (IntKind.i64.wrap ((j : Int) + 1))) (v' := .int .i64 ((j + 1 : Nat) : Int)) (ci (by rw [IntKind.wrap_i64]; omega)) ?_
    refine back (j + 1) _ _ (by omega) (by omega) ?_ (by kernel_rfl)
    show [box g 253 ((eI .u8).flat ((idT j).set j (j : Int)))] = _
    rw [idT_set j hlt]
    rfl
  obtain rfl : j = 256 := by
    have := of_decide_eq_false q
    omega
  refine cx ?_
  repeat refine c_seq ?_
  refine r_start ?_
  refine p 4 ?_
  refine rend ?_
  repeat refine c_seq ?_
  refine c_block ?_
  refine c_loop ?_
  repeat refine c_seq ?_
  refine r_start ?_
  refine p 2 ?_
  refine rend ?_
  repeat refine c_seq ?_
  refine c_t (by kernel_rfl) ?_
  refine c_skip ?_
  repeat refine c_seq ?_
  refine c_block ?_
  repeat refine c_seq ?_
  refine r_start ?_
  refine p 2 ?_
  refine xq rfl (y_idx (e := eS) (el := 9) (z := 2) (y := [114]) rfl (sA _)) ?_
  refine xq rfl (y_el (e := eS) (z := 2) (y := [114]) 0 (.string (bs [114])) rfl (sA _)) ?_
  refine xq rfl (y_byte (s := [114]) (z := 0) (y := 114) rfl) ?_
  refine p 1 ?_
  refine rend ?_
  repeat refine c_seq ?_
  refine r_start ?_
  refine p 3 ?_
  refine xq rfl (y_idx (e := eS) (el := 9) (z := 3) (y := [108]) rfl (sA _)) ?_
  refine xq rfl (y_el (e := eS) (z := 3) (y := [108]) 0 (.string (bs [108])) rfl (sA _)) ?_
  refine xq rfl (y_byte (s := [108]) (z := 0) (y := 108) rfl) ?_
  refine p 1 ?_
  refine rend ?_
  repeat refine c_seq ?_
  refine r_start ?_
  refine p 2 ?_
  refine xq rfl (y_arpk (kd := .u8) (e := eI .u8) (el := 5) (g := g) (z := 114) (l := idT 256) (by decide) (by rw [idT_len]; decide)) ?_
  refine xx rfl (e_star (e := eI .u8) (z := 114) (a := 114) (b := 108) (l := idT 256) 0 (by decide +kernel) ?_)
  refine rend ?_
  refine c_inb ?_
  repeat refine c_seq ?_
  refine r_start ?_
  refine p 3 ?_
  refine rend ?_
  refine c_inl ?_
  repeat refine c_seq ?_
  refine r_start ?_
  refine p 2 ?_
  refine rend ?_
  repeat refine c_seq ?_
  refine c_t (by kernel_rfl) ?_
  refine c_skip ?_
  repeat refine c_seq ?_
  refine c_block ?_
  repeat refine c_seq ?_
  refine r_start ?_
  refine p 2 ?_
  refine xq rfl (y_idx (e := eS) (el := 9) (z := 0) (y := [108]) rfl (sA _)) ?_
  refine xq rfl (y_el (e := eS) (z := 0) (y := [108]) 0 (.string (bs [108])) rfl (sA _)) ?_
  refine xq rfl (y_byte (s := [108]) (z := 0) (y := 108) rfl) ?_
  refine p 1 ?_
  refine rend ?_
  repeat refine c_seq ?_
  refine r_start ?_
  refine p 3 ?_
  refine xq rfl (y_idx (e := eS) (el := 9) (z := 1) (y := [114]) rfl (sA _)) ?_
  refine xq rfl (y_el (e := eS) (z := 1) (y := [114]) 0 (.string (bs [114])) rfl (sA _)) ?_
  refine xq rfl (y_byte (s := [114]) (z := 0) (y := 114) rfl) ?_
  refine p 1 ?_
  refine rend ?_
  repeat refine c_seq ?_
  refine r_start ?_
  refine p 2 ?_
  refine xq rfl (y_arpk (kd := .u8) (e := eI .u8) (el := 5) (g := g) (z := 108) (l := (idT 256).set 114 108) (by decide) (by rw [List.length_set, idT_len]; decide)) ?_
  refine xx rfl (e_star (e := eI .u8) (z := 108) (a := 108) (b := 114) (l := (idT 256).set 114 108) 0 (by decide +kernel) ?_)
  refine rend ?_
  refine c_inb ?_
  repeat refine c_seq ?_
  refine r_start ?_
  refine p 3 ?_
  refine rend ?_
  refine c_inl ?_
  repeat refine c_seq ?_
  refine r_start ?_
  refine p 2 ?_
  refine rend ?_
  repeat refine c_seq ?_
  refine c_f (by kernel_rfl) ?_
  refine cx ?_
  repeat refine c_seq ?_
  refine r_start ?_
  refine xq rfl (y_mkif (d := .pointer 253) (.pointer (some ⟨g, 0, none⟩))) ?_
  refine p 1 ?_
  refine rend ?_
  refine ret func236 rfl (vs := [.iface 254 (.pointer (some ⟨g, 0, none⟩))]) (.tmp (by kernel_rfl) .nil) rfl (fun W S => ⟨g, rfl, ?_⟩)
  have e : [tabI g swT] = [box g 253 ((eI .u8).flat (((idT 256).set 114 108).set 108 114))] := by rw [idT_sw]; rfl
  rw [e]
  exact S
end Go.Proofs.XC
namespace Go.Proofs.XC
open Go Go.RowKit
open Tryz
def swS (s : Str) (j : Nat) : Str := (s.take j).map swapLR ++ s.drop j
theorem swS_zero (s : Str) : swS s 0 = s := by simp [swS]
theorem swS_len (s : Str) (j : Nat) : (swS s j).length = s.length := by simp [swS]; omega
theorem swS_end (s : Str) : swS s s.length = s.map swapLR := by simp [swS]
theorem swS_set (s : Str) (j : Nat) (b : UInt8) (h : s[j]? = some b) : (swS s j).set j (swapLR b) = swS s (j + 1) := by
  obtain ⟨hlt, rfl⟩ := List.getElem?_eq_some_iff.1 h
  unfold swS
  rw [List.set_append_right _ _ (by simp; omega)]
  have e : j - ((s.take j).map swapLR).length = 0 := by simp; omega
  rw [e, ← List.getElem_cons_drop hlt, List.set_cons_zero, List.take_succ_eq_append_getElem hlt, List.map_append]
  simp
theorem swS_same (s : Str) (j : Nat) (b : UInt8) (h : s[j]? = some b) (hb : swapLR b = b) : swS s (j + 1) = swS s j := by
  rw [← swS_set s j b h, hb]
  apply List.ext_getElem?
  intro n
  by_cases hn : j = n
  · subst hn
    obtain ⟨hlt, rfl⟩ := List.getElem?_eq_some_iff.1 h
    rw [List.getElem?_set_self (by rw [swS_len]; exact hlt)]
    unfold swS
    rw [List.getElem?_append_right (by simp; omega)]
    have e : j - ((s.take j).map swapLR).length = 0 := by simp; omega
    rw [e]
    simp [hlt]
  · rw [List.getElem?_set_ne hn]
theorem u8_lt (b : UInt8) : b.toNat < 256 := b.toNat_lt
theorem swapLR_nat (b : UInt8) : ((swapLR b).toNat : Int) = if b.toNat = 108 then 114 else if b.toNat = 114 then 108 else (b.toNat : Int) := by
  have h1 : b = 108 ↔ b.toNat = 108 := ⟨fun h => by rw [h]; rfl, fun h => UInt8.toNat_inj.1 h⟩
  have h2 : b = 114 ↔ b.toNat = 114 := ⟨fun h => by rw [h]; rfl, fun h => UInt8.toNat_inj.1 h⟩
  unfold swapLR
  simp only [h1, h2]
  split
  · rfl
  · split <;> rfl
theorem swT_get (b : UInt8) : ((eI .u8).flat swT)[b.toNat]? = some (Value.int .u8 ((swapLR b).toNat : Int)) := by
  rw [flat_ints, List.getElem?_map]
  unfold swT
  rw [List.getElem?_map, List.getElem?_range (u8_lt b), swapLR_nat]
  rfl
theorem tab_rd (b : UInt8) : rdC prog 5 ((b.toNat : Int).toNat * (eI .u8).sz) ((eI .u8).flat swT) = some (.int .u8 ((swapLR b).toNat : Int)) := by
  have h : aggB prog 5 = some false := by kernel_rfl
  unfold rdC
  rw [h]
  simp only [Int.toNat_natCast]
  show ((eI .u8).flat swT)[b.toNat * 1]? = _
  rw [Nat.mul_one]
  exact swT_get b
def bufV (n : Nat) : Option (Nat × Nat) → Value
  | none => .slice none 0 0
  | some q => .slice (some ⟨q.1, 0, none⟩) n q.2
def bufL (s : Str) (j : Nat) : Option (Nat × Nat) → List Hold
  | none => []
  | some q => [bufI q.1 5 (swS s j)]
theorem byteRepl_c {g : Nat} {s : Str} (w : World) (hg : w.heap[g]? = some (.cells ((eI .u8).flat swT).toArray 253 (0, 0))) (hl : s.length ≤ 9223372036854775807) :
    Calls prog 317 #[.pointer (some ⟨g, 0, none⟩), .string (bs s)] w (Ret w (.string (bs (s.map swapLR)))) := by
  refine calls (M := no) (args := [.pointer (some ⟨g, 0, none⟩), .string (bs s)]) func317 rfl ?_
  repeat refine c_seq ?_
  refine r_start ?_
  refine p 1 ?_
  refine rend ?_
  repeat refine c_seq ?_
  refine r_start ?_
  refine p 1 ?_
  refine rend ?_
  repeat refine c_seq ?_
  refine r_start ?_
  refine p 1 ?_
  refine rend ?_
  refine c_block ?_
  refine loop (X := Nat × Option (Nat × Nat)) (fun x => s.length - x.1) (fun x => x.1 ≤ s.length ∧ (x.2 = none → swS s x.1 = s)) (fun x => bufL s x.1 x.2) (fun x u => .pointer (some ⟨g, 0, none⟩) :: .string (bs s) :: jk u 2 3 (bufV s.length x.2 :: .int .i64 (x.1 : Int) :: jk u 7 34 [])) (0, none) ⟨Nat.zero_le _, fun _ => swS_zero s⟩ (by kernel_rfl) (by kernel_rfl) ?_
  rintro ⟨j, o⟩ u ⟨hj, hs⟩ back
  simp only at hj hs
  repeat refine c_seq ?_
  refine r_start ?_
  refine p 4 ?_
  refine rend ?_
  refine c_or (decide ((j : Int) < (List.length s : Int))) (fun q => ?_) (fun q => ?_)
  · have hlt : j < s.length := by
      have := of_decide_eq_true q
      omega
    obtain ⟨b, hb⟩ : ∃ b, s[j]? = some b := ⟨_, List.getElem?_eq_getElem hlt⟩
    have hgb : getB s (j : Int) = some (b.toNat : Int) := by
      unfold getB getI
      rw [if_pos (by omega)]
      simp [hb]
    have h0 : (0 : Int) ≤ (b.toNat : Int) := by omega
    have h1 : (b.toNat : Int) < (swT.length : Int) := by rw [swT_len]; have := u8_lt b; omega
    refine c_skip ?_
    repeat refine c_seq ?_
    refine c_block ?_
    repeat refine c_seq ?_
    refine r_start ?_
    refine p 2 ?_
    refine xq rfl (y_byte hgb) ?_
    refine p 1 ?_
    refine rend ?_
    repeat refine c_seq ?_
    refine r_start ?_
    refine p 3 ?_
    refine xq rfl (y_arpk (kd := .u8) (e := eI .u8) (el := 5) (g := g) (z := (b.toNat : Int)) (l := swT) h0 h1) ?_
    refine xq rfl (y_ld0 (.int .u8 ((swapLR b).toNat : Int)) g ((b.toNat : Int).toNat * (eI .u8).sz) hg (hv := tab_rd b)) ?_
    refine p 2 ?_
    refine rend ?_
    have hw : IntKind.i64.wrap ((j : Int) + 1) = ((j + 1 : Nat) : Int) := by rw [IntKind.wrap_i64]; omega
    refine c_or (((swapLR b).toNat : Int) != (b.toNat : Int)) (fun q2 => ?_) (fun q2 => ?_)
    · cases o with
      | none =>
        have hss : swS s j = s := hs rfl
        repeat refine c_seq ?_
        refine r_start ?_
        refine p 1 ?_
        refine xq rfl (y_eqn (A := none) (n := 0) (c := 0) (el := 5)) ?_
        refine rend ?_
        refine c_t (by kernel_rfl) ?_
        refine r_start ?_
        refine p 1 ?_
        refine xx rfl (e_tob (el := 5) (s := s) fun g2 cp => ?_)
        refine p 1 ?_
        refine rend ?_
        refine r_start ?_
        refine p 5 ?_
        refine xq rfl (y_arpk (kd := .u8) (e := eI .u8) (el := 5) (g := g) (z := (b.toNat : Int)) (l := swT) h0 h1) ?_
        refine xq rfl (y_ld0 (.int .u8 ((swapLR b).toNat : Int)) g ((b.toNat : Int).toNat * (eI .u8).sz) hg (hv := tab_rd b)) ?_
        refine xq rfl (y_ids (el := 5) (g := g2) (n := s.length) (c := cp) (z := (j : Int)) (size := 1) (by omega) (by omega)) ?_
        refine xx rfl (e_stb (el := 5) (g := g2) (q := j) (l := s) (b := swapLR b) 0 hlt ?_)
        refine rend ?_
        refine c_inb ?_
        refine r_start ?_
        refine p 3 ?_
        refine rend ?_
        refine c_set 6 (ci hw) ?_
        refine back (j + 1, some (g2, cp)) _ _ (by simp only; omega) ⟨hlt, fun h => by cases h⟩ ?_ (by kernel_rfl)
        show [bufI g2 5 (s.set j (swapLR b))] = [bufI g2 5 (swS s (j + 1))]
        rw [← swS_set s j b hb, hss]
      | some z =>
        obtain ⟨g2, cp⟩ := z
        repeat refine c_seq ?_
        refine r_start ?_
        refine p 1 ?_
        refine xq rfl (y_eqn (A := some ⟨g2, 0, none⟩) (n := s.length) (c := cp) (el := 5)) ?_
        refine rend ?_
        refine c_f (by kernel_rfl) ?_
        refine c_skip ?_
        refine r_start ?_
        refine p 5 ?_
        refine xq rfl (y_arpk (kd := .u8) (e := eI .u8) (el := 5) (g := g) (z := (b.toNat : Int)) (l := swT) h0 h1) ?_
        refine xq rfl (y_ld0 (.int .u8 ((swapLR b).toNat : Int)) g ((b.toNat : Int).toNat * (eI .u8).sz) hg (hv := tab_rd b)) ?_
        refine xq rfl (y_ids (el := 5) (g := g2) (n := s.length) (c := cp) (z := (j : Int)) (size := 1) (by omega) (by omega)) ?_
        refine xx rfl (e_stb (el := 5) (g := g2) (q := j) (l := swS s j) (b := swapLR b) 0 (by rw [swS_len]; exact hlt) ?_)
        refine rend ?_
        refine c_inb ?_
        refine r_start ?_
        refine p 3 ?_
        refine rend ?_
        refine c_set 6 (ci hw) ?_
        refine back (j + 1, some (g2, cp)) _ _ (by simp only; omega) ⟨hlt, fun h => by cases h⟩ ?_ (by kernel_rfl)
        show [bufI g2 5 ((swS s j).set j (swapLR b))] = [bufI g2 5 (swS s (j + 1))]
        rw [swS_set s j b hb]
    · have hbb : swapLR b = b := by
        have h3 : ((swapLR b).toNat : Int) = (b.toNat : Int) := by simpa using q2
        exact UInt8.toNat_inj.1 (by omega)
      refine c_skip ?_
      refine c_inb ?_
      refine r_start ?_
      refine p 3 ?_
      refine rend ?_
      refine c_set 6 (ci hw) ?_
      refine back (j + 1, o) _ _ (by simp only; omega) ⟨hlt, fun h => by simp only at h ⊢; rw [swS_same s j b hb hbb]; exact hs h⟩ ?_ (by kernel_rfl)
      have e : bufL s (j + 1) o = bufL s j o := by
        cases o with
        | none => rfl
        | some z => show [bufI z.1 5 (swS s (j + 1))] = [bufI z.1 5 (swS s j)]; rw [swS_same s j b hb hbb]
      show List.take (bufL s (j + 1) o).length (bufL s j o) = bufL s (j + 1) o
      rw [e, List.take_length]
  · obtain rfl : j = s.length := by
      have := of_decide_eq_false q
      omega
    refine cx ?_
    repeat refine c_seq ?_
    cases o with
    | none =>
      have hss : swS s s.length = s := hs rfl
      rw [swS_end] at hss
      rw [hss]
      refine r_start ?_
      refine p 1 ?_
      refine xq rfl (y_eqn (A := none) (n := 0) (c := 0) (el := 5)) ?_
      refine rend ?_
      refine c_t (by kernel_rfl) ?_
      repeat refine c_seq ?_
      refine r_start ?_
      refine p 2 ?_
      refine rend ?_
      exact ret func317 rfl (vs := [.string (bs s)]) (.tmp (by kernel_rfl) .nil) rfl (fun W S => ⟨rfl, S.below⟩)
    | some z =>
      obtain ⟨g2, cp⟩ := z
      have he : swS s s.length = s.map swapLR := swS_end s
      refine r_start ?_
      refine p 1 ?_
      refine xq rfl (y_eqn (A := some ⟨g2, 0, none⟩) (n := s.length) (c := cp) (el := 5)) ?_
      refine rend ?_
      refine c_f (by kernel_rfl) ?_
      refine c_skip ?_
      repeat refine c_seq ?_
      refine r_start ?_
      refine p 1 ?_
      refine o_set 39 (v := .slice (some ⟨g2, 0, none⟩) s.length cp) (v' := .slice (some ⟨g2, 0, none⟩) (swS s s.length).length cp) (by rw [swS_len]) ?_
      refine xq rfl (y_fromb (el := 5) (g := g2) (c := cp) (l := swS s s.length) 0) ?_
      refine p 1 ?_
      refine rend ?_
      rw [← he]
      exact ret func317 rfl (vs := [.string (bs (swS s s.length))]) (.tmp (by kernel_rfl) .nil) rfl (fun W S => ⟨rfl, S.below⟩)
end Go.Proofs.XC
namespace Go.Proofs.XC
open Go Go.RowKit
open Tryz
theorem meth (g : Nat) (W : World) : (method (Tryz.prog.types.size + Made.depth) 254 (.pointer (some ⟨g, 0, none⟩)) "Replace").run prog W = .ok (317, .pointer (some ⟨g, 0, none⟩)) W := by kernel_rfl
theorem run_inv {o : Oper} {rs : List Value} {c : Call} {x a : Operand} {g : Nat} {s : Value} (hop : o.op = .call c) (hcal : c.callee = .invoke x "Replace") (hx : ev rs x = .iface 254 (.pointer (some ⟨g, 0, none⟩))) (ha : c.args = #[a]) (hs : ev rs a = s) (W : World) :
    (execOp (ev rs) o).run prog W = .ok (.enter 317 #[.pointer (some ⟨g, 0, none⟩), s]) W := by
  have hm := meth g W
  have hn : ¬ (Tryz.f317.name = "runtime.NumGoroutine") := by decide +kernel
  have hb : Tryz.f317.body.isNone = false := rfl
  have hp : program.run prog W = .ok prog W := rfl
  simp only [execOp, hop, resolve, hcal, ha, invoke, callMethod, callFunc, Sem.run_bind, Sem.run_pure, Result.andThen_ok]
  have hb2 : ¬ (Tryz.f317.body = none) := by intro h; rw [h] at hb; cases hb
  simp [hx, hs]
  simp at hm
  rw [hm]
  simp [hn, hb2]
/-! ### Worlds, one behind the other -/
section
variable {M M' : Nat → Prop} {w0 W W' : World} {its its' l x : List Hold}
theorem St.tr (S : St M w0 W its) (S' : St M' W W' its') (hM : ∀ k, M' k → w0.heap.size ≤ k ∨ M k) : St M w0 W' its' := by
  refine ⟨S'.os.trans S.os, S'.tape.trans S.tape, S'.output.trans S.output, Nat.le_trans S.size S'.size, fun k hk hn => ?_, fun it hi => ?_, S'.apart⟩
  · refine (S'.keep k (Nat.lt_of_lt_of_le hk S.size) (fun h => ?_)).trans (S.keep k hk hn)
    rcases hM k h with h | h
    · omega
    · exact hn h
  · obtain ⟨h1, h2, h3⟩ := S'.all it hi
    refine ⟨h1, h2, fun k hk => ⟨?_, (h3 k hk).2⟩⟩
    rcases (h3 k hk).1 with h | h
    · exact .inl (Nat.le_trans S.size h)
    · exact hM k h
/-- Behind a call that has changed the items x alone. -/
theorem St.cut (S : St M w0 W (l ++ x)) (S' : St M' W W' its') (hM : ∀ k, M' k → ∃ it ∈ x, it.own k) : St M w0 W' l := by
  have hx : ∀ k, M' k → w0.heap.size ≤ k ∨ M k := fun k hk => by
    obtain ⟨it, hi, ho⟩ := hM k hk
    exact ((S.all it (List.mem_append_right _ hi)).2.2 k ho).1
  refine ⟨S'.os.trans S.os, S'.tape.trans S.tape, S'.output.trans S.output, Nat.le_trans S.size S'.size, fun k hk hn => ?_, fun it hi => ?_, (List.pairwise_append.1 S.apart).1⟩
  · refine (S'.keep k (Nat.lt_of_lt_of_le hk S.size) (fun h => ?_)).trans (S.keep k hk hn)
    rcases hx k h with h | h
    · omega
    · exact hn h
  · obtain ⟨h1, h2, h3⟩ := S.all it (List.mem_append_left _ hi)
    refine ⟨h1, h1 W W' (fun k hk => S'.keep k (h3 k hk).2 fun h => ?_) h2, fun k hk => ⟨(h3 k hk).1, Nat.lt_of_lt_of_le (h3 k hk).2 S'.size⟩⟩
    obtain ⟨y, hy, ho⟩ := hM k h
    exact (List.pairwise_append.1 S.apart).2.2 it hi y hy k hk ho
/-- A world in which the items x stand: seen from there. -/
theorem St.here (S : St M w0 W (l ++ x)) : St (fun k => ∃ it ∈ x, it.own k) W W x :=
  ⟨rfl, rfl, rfl, Nat.le_refl _, fun _ _ _ => rfl, fun it hi => by
    obtain ⟨h1, h2, h3⟩ := S.all it (List.mem_append_right _ hi)
    exact ⟨h1, h2, fun k hk => ⟨.inr ⟨it, hi, hk⟩, (h3 k hk).2⟩⟩, (List.pairwise_append.1 S.apart).2.1⟩
theorem St.setc {i b off : Nat} {t : TypeId} {cs : List Value} {v : Value} (S : St M w0 W its) (h : its[i]? = some (box b t cs)) : St M w0 (W.setCell ⟨b, off, none⟩ v) (its.set i (box b t (cs.set off v))) := by
  have hb : W.heap[b]? = some (.cells cs.toArray t (0, 0)) := S.get h
  have hlt := (S.own h b rfl).2
  have hsz : (W.setCell ⟨b, off, none⟩ v).heap.size = W.heap.size := by simp
  refine S.upd h rfl rfl rfl (by rw [hsz]; exact Nat.le_refl _) (fun k hk hne => ?_) (box_good _ _ _) ?_ (fun k hk => ⟨.inl hk, by rw [hsz]; have hk' : k = b := hk; rw [hk']; exact hlt⟩)
  · have hne' : ¬ k = b := fun e => hne e
    unfold World.setCell
    simp [Array.getElem?_modify, Ne.symm hne']
  · show (W.setCell ⟨b, off, none⟩ v).heap[b]? = _
    unfold World.setCell
    simp [Array.getElem?_modify, hb]
theorem box_cell {b off : Nat} {t : TypeId} {cs : List Value} {v : Value} (h : W.heap[b]? = some (.cells cs.toArray t (0, 0))) (hv : cs[off]? = some v) : W.cell? ⟨b, off, none⟩ = some v := by
  unfold World.cell?
  simp [h, hv]
theorem box_frozen {b off : Nat} {t : TypeId} {cs : List Value} (h : W.heap[b]? = some (.cells cs.toArray t (0, 0))) : W.frozen? ⟨b, off, none⟩ = false := by
  unfold World.frozen?
  simp [h]
end
section
variable {P : Program} {f : FuncId} {fn : Func} {R : Ending → World → Prop} {M : Nat → Prop} {w0 : World} {its : List Hold} {rs : List Value} {o : Oper} {K : List Hold → List Value → Prop}
theorem callsI {c : Code} {args : List Value} (hS : St M w0 w0 its) (hf : P.funcs[f]? = some fn) (hb : fn.body = some c)
    (h : GS P f R M w0 its [.code c] (args ++ List.replicate (fn.ntmps - args.length) undef)) : Calls P f args.toArray w0 R :=
  G.calls hf hb (by simpa using h.out w0 hS)
/-- A call that changes the items. -/
theorem e_chg {Q : Type} {c : Call} {d : Option Tmp} {g : FuncId} {gfn : Func} (args : List Value) (res : Q → Value) (mk : Q → List Hold) (hgf : P.funcs[g]? = some gfn)
    (hc : ∀ W, St M w0 W its → Calls P g args.toArray W fun e W' => ∃ q, e = .returned (res q) ∧ St M w0 W' (mk q))
    (h : ∀ q, K (mk q) (pt rs d (res q)))
    (hop : o.op = .call c := by rfl) (hd : o.dst = d := by rfl) (hcal : c.callee = .value (.func g) := by rfl)
    (hb : gfn.body.isNone = false := by rfl) (hn : (gfn.name == "runtime.NumGoroutine") = false := by kernel_rfl) (ha : c.args.toList.map (ev rs) = args := by kernel_rfl) : Ex P M w0 its o rs K := by
  refine .enter (g := g) (args := args) fun W S => ⟨run_call (fst := #[]) (caps := #[]) hop hcal (x := .func g) rfl hgf hb hn (by simpa using ha) W, (hc W S).mono ?_⟩
  rintro e W' ⟨q, rfl, S'⟩
  exact ⟨_, mk q, rfl, S', by rw [hd]; exact h q⟩
end
def rpl (d m : Int) (r v : Value) : List Value := [.int .u32 d, .int .i32 m, .int .u32 0, r, v]
def rowP (B : Nat) (A : Option Addr) (k : Nat) : Hold := rowT eS B 9 (.slice A 4 k) pairs4
theorem newRepl_c {A : Option Addr} {k : Nat} (w : World) (hA : RdT eS w (.slice A (List.length pairs4) k) pairs4) :
    Calls prog 181 #[.slice A 4 k] w fun e W' => ∃ q : Nat × Option Addr × Nat, e = .returned (.pointer (some ⟨q.1, 0, none⟩)) ∧ St no w W' [rowP w.heap.size q.2.1 q.2.2, box q.1 219 (rpl 0 0 .nilIface (.slice q.2.1 4 q.2.2))] := by
  refine calls (M := no) (args := [.slice A 4 k]) func181 rfl ?_
  repeat refine c_seq ?_
  refine r_start ?_
  refine p 1 ?_
  refine rend ?_
  repeat refine c_seq ?_
  refine r_start ?_
  refine p 4 ?_
  refine rend ?_
  refine c_f (by kernel_rfl) ?_
  refine c_skip ?_
  repeat refine c_seq ?_
  refine r_start ?_
  refine p 1 ?_
  refine o_nil eS 9 ?_
  refine xx rfl (e_app (e := eS) (el := 9) (l := []) (m := pairs4) (q := pairs4) (A2 := A) (c2 := k) 0 (by kernel_rfl) (s_arg hA) fun A2 k2 => ?_)
  refine p 1 ?_
  refine xx rfl (x_box (rpl 0 0 .nilIface (.slice A2 4 k2)) fun g => ?_)
  refine p 1 ?_
  refine rend ?_
  exact ret func181 rfl (vs := [.pointer (some ⟨g, 0, none⟩)]) (.tmp (by kernel_rfl) .nil) rfl (fun W S => ⟨(g, A2, k2), rfl, S⟩)
theorem buildOnce_c {M : Nat → Prop} {B b : Nat} {A : Option Addr} {k : Nat} (w : World) (S0 : St M w w [box b 219 (rpl 0 1 .nilIface (.slice A 4 k)), rowP B A k]) :
    Calls prog 218 #[.pointer (some ⟨b, 0, none⟩)] w fun e W' => ∃ g, e = .returned (.tuple #[]) ∧ St M w W' [box b 219 (rpl 0 1 (.iface 254 (.pointer (some ⟨g, 0, none⟩))) (.slice none 0 0)), rowP B A k, tabI g swT] := by
  refine callsI (M := M) (its := [box b 219 (rpl 0 1 .nilIface (.slice A 4 k)), rowP B A k]) (args := [.pointer (some ⟨b, 0, none⟩)]) S0 func218 rfl ?_
  repeat refine c_seq ?_
  refine r_start ?_
  refine p 2 ?_
  refine xx rfl (e_cits [.pointer (some ⟨b, 0, none⟩)] (fun g => .iface 254 (.pointer (some ⟨g, 0, none⟩))) (fun g => [tabI g swT]) func236 (fun W S => build_c W (S.bx 0) (by kernel_rfl) (Rd.own (S.get (i := 1) rfl))) fun g => ?_)
  refine p 2 ?_
  refine xx rfl (x_sto 0 b 3 (rpl 0 1 (.iface 254 (.pointer (some ⟨g, 0, none⟩))) (.slice A 4 k)) ?_)
  refine rend ?_
  repeat refine c_seq ?_
  refine r_start ?_
  refine p 3 ?_
  refine xx rfl (x_sto 0 b 4 (rpl 0 1 (.iface 254 (.pointer (some ⟨g, 0, none⟩))) (.slice none 0 0)) ?_)
  refine rend ?_
  exact fin func218 rfl (vs := []) .nil rfl (fun W S => ⟨g, rfl, S⟩)
theorem do_c {M : Nat → Prop} {B b : Nat} {A : Option Addr} {k : Nat} (w : World) (S0 : St M w w [box b 219 (rpl 0 0 .nilIface (.slice A 4 k)), rowP B A k]) :
    Calls prog 217 #[.pointer (some ⟨b, 0, none⟩), .func (.func 218) #[.pointer (some ⟨b, 0, none⟩)] #[]] w fun e W' => ∃ g, e = .returned (.tuple #[]) ∧ St M w W' [box b 219 (rpl 1 0 (.iface 254 (.pointer (some ⟨g, 0, none⟩))) (.slice none 0 0)), rowP B A k, tabI g swT] := by
  have hb : w.heap[b]? = some (.cells (rpl 0 0 .nilIface (.slice A 4 k)).toArray 219 (0, 0)) := S0.bx 0
  have S1 : St M w (w.setCell ⟨b, 1, none⟩ (.int .i32 1)) [box b 219 (rpl 0 1 .nilIface (.slice A 4 k)), rowP B A k] := S0.setc (i := 0) rfl
  have S1' := St.here (l := []) S1
  have hM : ∀ k', (∃ it ∈ [box b 219 (rpl 0 1 .nilIface (.slice A 4 k)), rowP B A k], it.own k') → w.heap.size ≤ k' ∨ M k' := fun k' ⟨it, hi, ho⟩ => ((S1.all it hi).2.2 k' ho).1
  refine (do_first b w (box_cell hb rfl) (box_cell hb rfl) (box_frozen hb) (box_frozen hb)
    (fun w1 => ∃ g, St M w w1 [box b 219 (rpl 0 1 (.iface 254 (.pointer (some ⟨g, 0, none⟩))) (.slice none 0 0)), rowP B A k, tabI g swT]) ?_ ?_).mono ?_
  · rintro w1 ⟨g, S⟩
    have h1 : w1.heap[b]? = some (.cells (rpl 0 1 (.iface 254 (.pointer (some ⟨g, 0, none⟩))) (.slice none 0 0)).toArray 219 (0, 0)) := S.bx 0
    exact ⟨box_cell h1 rfl, box_cell h1 rfl, box_frozen h1, box_frozen h1⟩
  · refine (buildOnce_c _ S1').mono ?_
    rintro e w1 ⟨g, rfl, S⟩
    exact ⟨rfl, g, S1.tr S hM⟩
  · rintro e w' ⟨rfl, w1, ⟨g, S⟩, rfl⟩
    refine ⟨g, rfl, ?_⟩
    have S2 : St M w w1.drew _ := S.frame (below_of_drew w1)
    exact (S2.setc (i := 0) (off := 0) (v := .int .u32 1) rfl).setc (i := 0) (off := 1) (v := .int .i32 0) rfl
theorem replace_c {M : Nat → Prop} {B b : Nat} {A : Option Addr} {k : Nat} {s : Str} (w : World) (S0 : St M w w [box b 219 (rpl 0 0 .nilIface (.slice A 4 k)), rowP B A k]) (hl : s.length ≤ 9223372036854775807) :
    Calls prog 182 #[.pointer (some ⟨b, 0, none⟩), .string (bs s)] w fun e W' => e = .returned (.string (bs (s.map swapLR))) ∧ St M w W' [] := by
  refine callsI (M := M) (its := [box b 219 (rpl 0 0 .nilIface (.slice A 4 k)), rowP B A k]) (args := [.pointer (some ⟨b, 0, none⟩), .string (bs s)]) S0 func182 rfl ?_
  repeat refine c_seq ?_
  refine r_start ?_
  refine p 1 ?_
  refine rend ?_
  repeat refine c_seq ?_
  refine r_start ?_
  refine p 5 ?_
  refine xx rfl (e_chg [.pointer (some ⟨b, 0, none⟩), .func (.func 218) #[.pointer (some ⟨b, 0, none⟩)] #[]] (fun _ => .tuple #[]) (fun g => [box b 219 (rpl 1 0 (.iface 254 (.pointer (some ⟨g, 0, none⟩))) (.slice none 0 0)), rowP B A k, tabI g swT]) func217 (fun W S => ?_) fun g => ?_)
  · refine (do_c W (St.here (l := []) S)).mono ?_
    rintro e w1 ⟨g, rfl, S'⟩
    exact ⟨g, rfl, S.tr S' (fun k' ⟨it, hi, ho⟩ => ((S.all it hi).2.2 k' ho).1)⟩
  refine rend ?_
  repeat refine c_seq ?_
  refine r_start ?_
  refine p 3 ?_
  refine xq rfl (y_load (.iface 254 (.pointer (some ⟨g, 0, none⟩))) 0 b 3) ?_
  refine p 1 ?_
  refine xq (v := .string (bs (s.map swapLR))) rfl ⟨fun W S => .inr ⟨317, _, run_inv (g := g) (s := .string (bs s)) rfl rfl (by kernel_rfl) rfl (by kernel_rfl) W, byteRepl_c W (S.bx 2) hl⟩⟩ ?_
  refine p 1 ?_
  refine rend ?_
  exact ret func182 rfl (vs := [.string (bs (s.map swapLR))]) (.tmp (by kernel_rfl) .nil) rfl (fun W S => ⟨rfl, S.take 0⟩)
end Go.Proofs.XC
namespace Go.Proofs.XC
open Go Go.RowKit
open Tryz
theorem C.i_Move_mirrored {a0 r : Move} (w : World) (h : X.i_Move_mirrored a0 = some r) : Calls prog 125 #[.agg (eMove a0).toArray] w (Ret w (.agg (eMove r).toArray)) := by
  unfold X.i_Move_mirrored at h
  split at h
  case isFalse => cases h
  rename_i hl
  obtain rfl := Option.some.inj h
  refine calls (M := no) (args := [.agg (eMove a0).toArray]) func125 rfl ?_
  repeat refine c_seq ?_
  refine r_start ?_
  refine xx rfl (x_box (eMove a0) fun g0 => ?_)
  refine xx rfl (x_new (eMove zMove) fun g1 => ?_)
  refine rend ?_
  repeat refine c_seq ?_
  refine as_start 8 9 ?_
  refine ap 2 1 ?_
  refine aq 3 rfl (y_load (.string (bs a0.Steps)) 0 g0 0) ?_
  refine ap 5 1 ?_
  refine aq 6 rfl (y_load (.int .i64 a0.Repeat) 0 g0 1) ?_
  refine ax 0 rfl (e_lit (e := eS) (el := 9) [.string (bs [108]), .string (bs [114]), .string (bs [114]), .string (bs [108])] pairs4 fun A k => ⟨.inr (by kernel_rfl), ?_⟩)
  refine ax 1 rfl (e_cits (Q := Nat × Nat × Option Addr × Nat) [.slice A 4 k] (fun q => .pointer (some ⟨q.2.1, 0, none⟩)) (fun q => [rowP q.1 q.2.2.1 q.2.2.2, box q.2.1 219 (rpl 0 0 .nilIface (.slice q.2.2.1 4 q.2.2.2))]) func181 (fun W S => ?_) fun q => ⟨.inr (by kernel_rfl), ?_⟩)
  · refine (newRepl_c W ((s_own 2).out W S)).mono ?_
    rintro e w' ⟨q, rfl, S'⟩
    exact ⟨(W.heap.size, q), rfl, S'⟩
  obtain ⟨B, b, A2, k2⟩ := q
  refine ax 4 rfl (e_chg (Q := Unit) [.pointer (some ⟨b, 0, none⟩), .string (bs a0.Steps)] (fun _ => .string (bs (a0.Steps.map swapLR))) (fun _ => [box g0 42 (eMove a0), box g1 42 (eMove zMove)]) func182 (fun W S => ?_) fun _ => ⟨.inr (by kernel_rfl), ?_⟩)
  · have S1 : St no w W ([box g0 42 (eMove a0), box g1 42 (eMove zMove), rowT eS w.heap.size 9 (.slice A 4 k) pairs4] ++ [box b 219 (rpl 0 0 .nilIface (.slice A2 4 k2)), rowP B A2 k2]) := S.perm (perm_last [box g0 42 (eMove a0), box g1 42 (eMove zMove), rowT eS w.heap.size 9 (.slice A 4 k) pairs4] (rowP B A2 k2) (box b 219 (rpl 0 0 .nilIface (.slice A2 4 k2))))
    refine (replace_c W S1.here hl).mono ?_
    rintro e w' ⟨rfl, S'⟩
    exact ⟨(), rfl, (S1.cut S' (fun _ h => h)).take 2⟩
  refine ap 7 1 ?_
  refine ax 8 rfl (x_sto 1 g1 0 (eMove ⟨a0.Steps.map swapLR, a0.Repeat⟩) ⟨.inl (by kernel_rfl), ?_⟩)
  refine a_done ?_
  exact ret func125 rfl (vs := [.agg (eMove ⟨a0.Steps.map swapLR, a0.Repeat⟩).toArray]) (.cell 1 g1 rfl (by kernel_rfl) (by kernel_rfl) .nil) rfl (fun W S => ⟨rfl, S.below⟩)
end Go.Proofs.XC
namespace Go.Proofs.XC
open Go Go.RowKit
open Tryz
/-! ### strings.Builder -/
theorem lays166 : Go.Proofs.Lays.n166 Tryz.prog Tryz.lays156_ren := { mixed := Tryz.lays156.mixed, f166 := Tryz.lays156.f166, f240 := Tryz.lays156.f240, f276 := Tryz.lays156.f276, t0 := Tryz.lays156.t0, a0 := Tryz.lays156.a0, z0 := Tryz.lays156.z0, v0 := Tryz.lays156.v0, t3 := Tryz.lays156.t3, a3 := Tryz.lays156.a3, z3 := Tryz.lays156.z3, v3 := Tryz.lays156.v3, t4 := Tryz.lays156.t4, a4 := Tryz.lays156.a4, z4 := Tryz.lays156.z4, v4 := Tryz.lays156.v4, t9 := Tryz.lays156.t9, a9 := Tryz.lays156.a9, z9 := Tryz.lays156.z9, v9 := Tryz.lays156.v9, t20 := Tryz.lays156.t20, a20 := Tryz.lays156.a20, z20 := Tryz.lays156.z20, v20 := Tryz.lays156.v20, t37 := Tryz.lays156.t37, a37 := Tryz.lays156.a37, z37 := Tryz.lays156.z37, v37 := Tryz.lays156.v37, t70 := Tryz.lays156.t70, a70 := Tryz.lays156.a70, z70 := Tryz.lays156.z70, v70 := Tryz.lays156.v70, t72 := Tryz.lays156.t72, a72 := Tryz.lays156.a72, z72 := Tryz.lays156.z72, v72 := Tryz.lays156.v72, t75 := Tryz.lays156.t75, a75 := Tryz.lays156.a75, z75 := Tryz.lays156.z75, v75 := Tryz.lays156.v75, t164 := Tryz.lays156.t164, a164 := Tryz.lays156.a164, z164 := Tryz.lays156.z164, v164 := Tryz.lays156.v164 }
theorem bld_up {T e B b : Nat} {l : List Value} {w w' : World} (h : Lib.IsBuilder T e B b l w) (hu : Up w w') : Lib.IsBuilder T e B b l w' := by
  have key : ∀ p, Lib.BuilderAt T e B b p l w → Lib.BuilderAt T e B b p l w' := by
    rintro p ⟨h1, v, h2, h3, h4⟩
    have hlt : b < w.heap.size := (Array.getElem?_eq_some_iff.1 h2).1
    refine ⟨h1, v, (hu.block b hlt).trans h2, ?_, h4⟩
    exact row_good B e 1 v l.length l w w' (fun k hk => hu.block k (h3.lt k hk).2) h3
  exact h.elim (fun h => .inl (key _ h)) (fun h => .inr (key _ h))
theorem cells_app (t y : Str) : Lib.byteCells t ++ Lib.strCells (bs y) = Lib.byteCells (t ++ y) := by
  unfold Lib.byteCells Lib.strCells
  rw [List.map_append]
  rfl
theorem below_of {B : Nat} {w W : World} (h : Below B w W) {W' : World} (h' : Up W W') (hB : B ≤ W.heap.size) : Below B w W' :=
  Below.trans h ⟨h'.os, h'.tape, h'.output, h'.size, fun k hk => h'.block k (Nat.lt_of_lt_of_le hk hB)⟩
end Go.Proofs.XC
