/- Plain laws of the plain functions: no program, no memory. By AI agents; no person has read it. -/
import Derived.Test.YtjjhlccjfdcfcaaGreatDoorPK2
set_option linter.unusedVariables false
set_option linter.unusedSimpArgs false
set_option maxRecDepth 100000
set_option maxHeartbeats 40000000
namespace Go.Proofs.XC
open Go Go.RowKit
theorem tiny_small {h : Hand} (ht : tinyH h) : small h := by unfold small; have := ht.1; omega
theorem tiny_mk {l : Str} {r : Int} (h1 : l.length ≤ 13) (h2 : r ≤ 4 ∧ -9223372036854775808 ≤ r) : tinyM ⟨l, r⟩ := ⟨h1, h2.1, h2.2⟩
theorem tiny_still : tinyM { zMove with Repeat := 1 } := tiny_mk (by decide) (by omega)
theorem okR_len {s : Str} {r : Nat} (h : okR s r) : (s.take (s.length / r)).length ≤ 6 := by
  have := h.1
  rw [List.length_take]
  omega
theorem nMv_tiny (s : Str) : tinyM (nMv s).1 := by
  unfold nMv
  split
  · exact tiny_mk (by simp) (by omega)
  split
  · rename_i h
    exact tiny_mk (by have := okR_len h; omega) (by omega)
  split
  · rename_i h
    exact tiny_mk (by have := okR_len h; omega) (by omega)
  split
  · rename_i h
    exact tiny_mk (by have := okR_len h; omega) (by omega)
  · exact ⟨by decide, by decide, by decide⟩
theorem mvNormal_ex {m : Move} {k : Nat} (h : tinyM m) (hk : 10 ≤ k) : ∃ v, X.s_mvNormal k m = some v ∧ tinyM v := by
  unfold X.s_mvNormal
  obtain ⟨r, e, hl⟩ := all_ex h hk
  rw [e, bind_some, s_mvOf_eq (by omega) hk, bind_some]
  exact ⟨_, rfl, nMv_tiny r⟩
theorem mirM_tiny {m : Move} (h : tinyM m) : tinyM (mirM m) := ⟨by unfold mirM; simp only [List.length_map]; exact h.1, h.2⟩
theorem otherFor_ex {c : List Int} {t s : Int} {m k : Nat} {a : Hand} (hc : okB8 c) (h : Bg m t) (ha : tinyH a) (hm : 100 ≤ m) (hk : 20 ≤ k) : Dw (m - 100) tinyH (X.s_l1Cur_otherFor k c t s a) := by
  have hmir : Dw (m - 100) tinyH (Option.bind (X.s_orMirror a.Orient) fun v6_2 => (Option.bind (X.s_plMirror a.Place) fun v7_2 => (Option.bind (X.s_mvMirror k a.Move) fun v8_2 => some ((⟨a.Shape, v6_2, v7_2, v8_2⟩ : Hand), t, s)))) := by
    have := ha.1
    rw [s_mirO_eq, bind_some]
    unfold X.s_plMirror
    rw [bind_some, s_mvMirror_eq (by omega) (by omega), bind_some]
    exact Dw.done h (mirM_tiny ha) (by omega)
  unfold X.s_l1Cur_otherFor
  refine Dw.bind (pick_ex hc h (by omega)) fun v t' s' h2 _ => ?_
  dsimp only
  have hmir : ∀ (t s : Int), Bg (m - 2) t → Dw (m - 100) tinyH (Option.bind (X.s_orMirror a.Orient) fun v6_2 => (Option.bind (X.s_plMirror a.Place) fun v7_2 => (Option.bind (X.s_mvMirror k a.Move) fun v8_2 => some ((⟨a.Shape, v6_2, v7_2, v8_2⟩ : Hand), t, s)))) := by
    intro t s h
    have := ha.1
    rw [s_mirO_eq, bind_some]
    unfold X.s_plMirror
    rw [bind_some, s_mvMirror_eq (by omega) (by omega), bind_some]
    exact Dw.done h (mirM_tiny ha) (by omega)
  refine Dw.cond (fun _ => hmir _ _ h2) (fun _ => Dw.cond (fun _ => hmir _ _ h2) (fun _ => Dw.cond (fun _ => ?_) (fun _ => Dw.cond (fun _ => ?_) (fun _ => Dw.cond (fun _ => ?_) (fun _ => ?_)))))
  · exact Dw.bind (place_ex hc h2 (by omega) hk) fun v2 t s h _ => Dw.done h tiny_still (by omega)
  · refine Dw.bind (hand_ex hc h2 (by omega) hk) fun v2 t s h _ => ?_
    dsimp only
    obtain ⟨q, rfl⟩ : ∃ q, k = q + 6 := ⟨k - 6, by omega⟩
    rw [s_siPlain_eq, bind_some]
    refine Dw.bind (pick_ex hc h (by omega)) fun v3 t s h hv => ?_
    exact Dw.pure (el_ex (by unfold plainL; simp) hv) fun x _ => Dw.done h tiny_still (by omega)
  · exact Dw.pure (mvNormal_ex ha (by omega)) fun v hv => Dw.done h2 hv (by omega)
  · exact Dw.bind (hand_ex hc h2 (by omega) hk) fun v2 t s h hv => Dw.done h (tiny_of hv) (by omega)
/-! #### Signs -/
def tinyS (s : Sign) : Prop := tinyH s.Main ∧ tinyH s.Other
theorem tinyS_small {s : Sign} (h : tinyS s) : smallS s := ⟨tiny_small h.1, tiny_small h.2⟩
theorem z_tiny : tinyH zHand := ⟨by decide, by decide, by decide⟩
theorem sign_ex {c : List Int} {t s : Int} {m k : Nat} (hc : okB8 c) (h : Bg m t) (hm : 200 ≤ m) (hk : 2000010 ≤ k) : Dw (m - 200) tinyS (X.s_l1Cur_sign k c t s) := by
  unfold X.s_l1Cur_sign
  refine Dw.bind (hand_ex hc h (by omega) (by omega)) fun v t s h hv => ?_
  refine Dw.bind (one_ex hc h (by omega)) fun v2 t s h _ => ?_
  dsimp only
  have hv := tiny_of hv
  refine Dw.cond (fun _ => Dw.done h ⟨hv, z_tiny⟩ (by omega)) (fun _ => ?_)
  refine Dw.bind (otherFor_ex hc h hv (by omega) (by omega)) fun v3 t s h hv3 => ?_
  dsimp only
  have hs : tinyS (⟨v, true, v3⟩ : Sign) := ⟨hv, hv3⟩
  rw [s_siGood_eq (tinyS_small hs) hk, bind_some]
  exact Dw.cond (fun _ => Dw.done h ⟨hv, z_tiny⟩ (by omega)) (fun _ => Dw.done h hs (by omega))
theorem anySign_ex {c : List Int} {t s : Int} {m k : Nat} (hc : okB8 c) (h : Bg m t) (hm : 400 ≤ m) (hk : 2000010 ≤ k) : Dw (m - 400) tinyS (X.s_l1Cur_anySign k c t s) := by
  unfold X.s_l1Cur_anySign
  refine Dw.bind (sign_ex hc h (by omega) hk) fun v t s h hv => ?_
  refine Dw.bind (pick_ex hc h (by omega)) fun v2 t s h _ => ?_
  dsimp only
  refine Dw.cond (fun _ => ?_) (fun _ => Dw.cond (fun _ => ?_) (fun _ => Dw.cond (fun _ => ?_) (fun _ => ?_)))
  · exact Dw.bind (anyHand_ex hc h (by omega) (by omega)) fun v2 t s h hv2 => Dw.done h ⟨hv2, hv.2⟩ (by omega)
  · exact Dw.done h hv (by omega)
  · exact Dw.bind (anyHand_ex hc h (by omega) (by omega)) fun v2 t s h hv2 => Dw.done h ⟨hv.1, hv2⟩ (by omega)
  · exact Dw.done h hv (by omega)
theorem Bg.start : Bg 1000000 0 := ⟨by omega, by omega⟩
end Go.Proofs.XC
