/- Contracts: each function, called where its plain function gives an answer, returns just that answer and changes nothing that was there. By AI agents; no person has read it. -/
import Derived.Test.YtcniidjoaancoaaGreatDoorDExactDropRegion
set_option linter.unusedVariables false
set_option linter.unusedSimpArgs false
set_option maxRecDepth 100000
set_option maxHeartbeats 40000000
namespace Go.Proofs.XC
open Go Go.RowKit
open Tryz
theorem C.l_heldEntryS {fu : Nat} {a0 : (List Entry)} {A0 : Option Addr} {k0 : Nat} {a1 : Int} {r : Int} (w : World) (h : X.l_heldEntryS fu a0 a1 = some r) (h0 : RdT nEntry w (.slice A0 (List.length a0) k0) a0) : Calls prog 49 #[.slice A0 (List.length a0) k0, .int .i64 a1] w (Ret w (.int .i64 r)) := by
  refine calls (M := no) (args := [.slice A0 (List.length a0) k0, .int .i64 a1]) func49 rfl ?_
  replace h : H (X.l_heldEntryS fu a0 a1) (fun o => o = r) := H.mk h
  unfold X.l_heldEntryS at h
  refine c_seq ?_
  refine r_start ?_
  refine p 1 ?_
  refine rend ?_
  refine c_seq ?_
  refine c_seq ?_
  refine r_start ?_
  refine p 1 ?_
  refine rend ?_
  refine c_block ?_
  refine joinE (X := Int) 0 (H.or h) (fun (x : Int) => x) (fun n3 => []) (fun n3 u => (jk u 0 1 (.int .i64 n3 :: (jk u 2 373 [])))) (fun h hj4 => ?_) ?_
  · skip
    refine loopR (X := (Int × Int)) (fun (x : (Int × Int)) => x) (fun ⟨n1, n2⟩ => []) (fun ⟨n1, n2⟩ u => (.slice A0 (List.length a0) k0 :: .int .i64 n1 :: (jk u 2 3 (.int .i64 n2 :: (jk u 6 369 []))))) (a1, 0) h (by kernel_rfl) (by kernel_rfl) ?_
    intro x u h
    obtain ⟨n1, n2⟩ := x
    refine c_seq ?_
    refine c_seq ?_
    refine r_start ?_
    refine p 4 ?_
    refine rend ?_
    refine c_or (decide (n2 < (List.length a0 : Int))) (fun q5 => ?_) (fun q5 => ?_)
    · replace h := H.t q5 h
      refine c_skip ?_
      refine c_seq ?_
      refine c_block ?_
      refine c_seq ?_
      refine c_seq ?_
      refine as_start 8 8 ?_
      refine ap 0 2 ?_
      obtain ⟨y4_2, hy4_2, h⟩ := H.call h
      refine aq 2 rfl (y_idx (e := nEntry) (el := 126) hy4_2 (s_arg h0)) ?_
      refine ap 3 1 ?_
      refine aq 4 rfl (y_el (e := nEntry) 0 (.string (bs y4_2.Gloss)) hy4_2 (s_arg h0)) ?_
      refine ap 5 1 ?_
      obtain ⟨v4_6, hv4_6, h⟩ := H.call h
      refine aq 6 rfl (y_call [.int .i64 n1] (.string (bs v4_6)) func77 (fun W S => C.l_markText W hv4_6)) ?_
      refine ap 7 1 ?_
      refine a_done ?_
      refine c_or (!seq y4_2.Gloss v4_6) (fun q6 => ?_) (fun q6 => ?_)
      · replace h := H.t q6 h
        refine c_seq ?_
        refine r_start ?_
        refine p 1 ?_
        refine rend ?_
        replace h := H.inr h
        replace h := H.done h
        subst h
        exact ret func49 rfl (vs := [.int .i64 (-1)]) (.tmp (by kernel_rfl) .nil) rfl (fun W S => ⟨rfl, S.below⟩)
      replace h := H.f q6 h
      refine c_skip ?_
      refine c_seq ?_
      refine r_start ?_
      refine p 3 ?_
      refine rend ?_
      refine c_seq ?_
      refine c_seq ?_
      refine r_start ?_
      refine p 2 ?_
      refine xq rfl (y_idx (e := nEntry) (el := 126) hy4_2 (s_arg h0)) ?_
      refine p 4 ?_
      refine xq rfl (y_el (e := nEntry) 1 (.int .i64 y4_2.Sign.Main.Shape.Thumb) hy4_2 (s_arg h0)) ?_
      refine p 2 ?_
      refine rend ?_
      refine c_or (y4_2.Sign.Main.Shape.Thumb != (wr (n1 + 1))) (fun q7 => ?_) (fun q7 => ?_)
      · replace h := H.t q7 h
        refine c_seq ?_
        refine r_start ?_
        refine p 1 ?_
        refine rend ?_
        replace h := H.inr h
        replace h := H.done h
        subst h
        exact ret func49 rfl (vs := [.int .i64 (-1)]) (.tmp (by kernel_rfl) .nil) rfl (fun W S => ⟨rfl, S.below⟩)
      replace h := H.f q7 h
      refine c_skip ?_
      refine c_seq ?_
      refine r_start ?_
      refine p 3 ?_
      refine rend ?_
      refine c_seq ?_
      refine c_seq ?_
      refine r_start ?_
      refine p 2 ?_
      refine xq rfl (y_idx (e := nEntry) (el := 126) hy4_2 (s_arg h0)) ?_
      refine p 4 ?_
      refine xq rfl (y_el (e := nEntry) 2 (.int .i64 y4_2.Sign.Main.Shape.Index) hy4_2 (s_arg h0)) ?_
      refine p 2 ?_
      refine rend ?_
      refine c_or (y4_2.Sign.Main.Shape.Index != (wr ((wr (n1 + 1)) + 1))) (fun q8 => ?_) (fun q8 => ?_)
      · replace h := H.t q8 h
        refine c_seq ?_
        refine r_start ?_
        refine p 1 ?_
        refine rend ?_
        replace h := H.inr h
        replace h := H.done h
        subst h
        exact ret func49 rfl (vs := [.int .i64 (-1)]) (.tmp (by kernel_rfl) .nil) rfl (fun W S => ⟨rfl, S.below⟩)
      replace h := H.f q8 h
      refine c_skip ?_
      refine c_seq ?_
      refine r_start ?_
      refine p 3 ?_
      refine rend ?_
      refine c_seq ?_
      refine c_seq ?_
      refine r_start ?_
      refine p 2 ?_
      refine xq rfl (y_idx (e := nEntry) (el := 126) hy4_2 (s_arg h0)) ?_
      refine p 4 ?_
      refine xq rfl (y_el (e := nEntry) 3 (.int .i64 y4_2.Sign.Main.Shape.Middle) hy4_2 (s_arg h0)) ?_
      refine p 2 ?_
      refine rend ?_
      refine c_or (y4_2.Sign.Main.Shape.Middle != (wr ((wr ((wr (n1 + 1)) + 1)) + 1))) (fun q9 => ?_) (fun q9 => ?_)
      · replace h := H.t q9 h
        refine c_seq ?_
        refine r_start ?_
        refine p 1 ?_
        refine rend ?_
        replace h := H.inr h
        replace h := H.done h
        subst h
        exact ret func49 rfl (vs := [.int .i64 (-1)]) (.tmp (by kernel_rfl) .nil) rfl (fun W S => ⟨rfl, S.below⟩)
      replace h := H.f q9 h
      refine c_skip ?_
      refine c_seq ?_
      refine r_start ?_
      refine p 3 ?_
      refine rend ?_
      refine c_seq ?_
      refine c_seq ?_
      refine r_start ?_
      refine p 2 ?_
      refine xq rfl (y_idx (e := nEntry) (el := 126) hy4_2 (s_arg h0)) ?_
      refine p 4 ?_
      refine xq rfl (y_el (e := nEntry) 4 (.int .i64 y4_2.Sign.Main.Shape.Ring) hy4_2 (s_arg h0)) ?_
      refine p 2 ?_
      refine rend ?_
      refine c_or (y4_2.Sign.Main.Shape.Ring != (wr ((wr ((wr ((wr (n1 + 1)) + 1)) + 1)) + 1))) (fun q10 => ?_) (fun q10 => ?_)
      · replace h := H.t q10 h
        refine c_seq ?_
        refine r_start ?_
        refine p 1 ?_
        refine rend ?_
        refine frg (fun u => (jk u 0 4 (.int .i64 (-1) :: (jk u 5 370 [])))) (by kernel_rfl) fun u => ?_
        replace h := H.inr h
        replace h := H.done h
        subst h
        exact ret func49 rfl (vs := [.int .i64 (-1)]) (.tmp (by kernel_rfl) .nil) rfl (fun W S => ⟨rfl, S.below⟩)
      replace h := H.f q10 h
      refine c_skip ?_
      refine c_seq ?_
      refine r_start ?_
      refine p 3 ?_
      refine rend ?_
      refine frg (fun u => (.slice A0 (List.length a0) k0 :: .int .i64 (wr ((wr ((wr ((wr ((wr (n1 + 1)) + 1)) + 1)) + 1)) + 1)) :: (jk u 2 3 (.int .i64 n2 :: (jk u 6 369 []))))) (by kernel_rfl) fun u => ?_
      refine c_seq ?_
      refine c_seq ?_
      refine r_start ?_
      refine p 2 ?_
      refine xq rfl (y_idx (e := nEntry) (el := 126) hy4_2 (s_arg h0)) ?_
      refine p 4 ?_
      refine xq rfl (y_el (e := nEntry) 5 (.int .i64 y4_2.Sign.Main.Shape.Little) hy4_2 (s_arg h0)) ?_
      refine p 2 ?_
      refine rend ?_
      refine c_or (y4_2.Sign.Main.Shape.Little != (wr ((wr ((wr ((wr ((wr (n1 + 1)) + 1)) + 1)) + 1)) + 1))) (fun q11 => ?_) (fun q11 => ?_)
      · replace h := H.t q11 h
        refine c_seq ?_
        refine r_start ?_
        refine p 1 ?_
        refine rend ?_
        replace h := H.inr h
        replace h := H.done h
        subst h
        exact ret func49 rfl (vs := [.int .i64 (-1)]) (.tmp (by kernel_rfl) .nil) rfl (fun W S => ⟨rfl, S.below⟩)
      replace h := H.f q11 h
      refine c_skip ?_
      refine c_seq ?_
      refine r_start ?_
      refine p 3 ?_
      refine rend ?_
      refine c_seq ?_
      refine c_seq ?_
      refine r_start ?_
      refine p 2 ?_
      refine xq rfl (y_idx (e := nEntry) (el := 126) hy4_2 (s_arg h0)) ?_
      refine p 4 ?_
      refine xq rfl (y_el (e := nEntry) 6 (.bool y4_2.Sign.Main.Shape.Spread) hy4_2 (s_arg h0)) ?_
      refine p 4 ?_
      refine rend ?_
      refine c_or (!(y4_2.Sign.Main.Shape.Spread == ((Int.tmod (wr ((wr ((wr ((wr ((wr ((wr (n1 + 1)) + 1)) + 1)) + 1)) + 1)) + 1)) 3) == 0))) (fun q12 => ?_) (fun q12 => ?_)
      · replace h := H.t q12 h
        refine c_seq ?_
        refine r_start ?_
        refine p 1 ?_
        refine rend ?_
        replace h := H.inr h
        replace h := H.done h
        subst h
        exact ret func49 rfl (vs := [.int .i64 (-1)]) (.tmp (by kernel_rfl) .nil) rfl (fun W S => ⟨rfl, S.below⟩)
      replace h := H.f q12 h
      refine c_skip ?_
      refine c_seq ?_
      refine r_start ?_
      refine p 3 ?_
      refine rend ?_
      refine c_seq ?_
      refine c_seq ?_
      refine r_start ?_
      refine p 2 ?_
      refine xq rfl (y_idx (e := nEntry) (el := 126) hy4_2 (s_arg h0)) ?_
      refine p 4 ?_
      refine xq rfl (y_el (e := nEntry) 7 (.int .i64 y4_2.Sign.Main.Orient.Palm) hy4_2 (s_arg h0)) ?_
      refine p 2 ?_
      refine rend ?_
      refine c_or (y4_2.Sign.Main.Orient.Palm != (wr ((wr ((wr ((wr ((wr ((wr ((wr (n1 + 1)) + 1)) + 1)) + 1)) + 1)) + 1)) + 1))) (fun q13 => ?_) (fun q13 => ?_)
      · replace h := H.t q13 h
        refine c_seq ?_
        refine r_start ?_
        refine p 1 ?_
        refine rend ?_
        replace h := H.inr h
        replace h := H.done h
        subst h
        exact ret func49 rfl (vs := [.int .i64 (-1)]) (.tmp (by kernel_rfl) .nil) rfl (fun W S => ⟨rfl, S.below⟩)
      replace h := H.f q13 h
      refine c_skip ?_
      refine c_seq ?_
      refine r_start ?_
      refine p 3 ?_
      refine rend ?_
      refine c_seq ?_
      refine c_seq ?_
      refine r_start ?_
      refine p 2 ?_
      refine xq rfl (y_idx (e := nEntry) (el := 126) hy4_2 (s_arg h0)) ?_
      refine p 4 ?_
      refine xq rfl (y_el (e := nEntry) 8 (.int .i64 y4_2.Sign.Main.Orient.Fingers) hy4_2 (s_arg h0)) ?_
      refine p 2 ?_
      refine rend ?_
      refine c_or (y4_2.Sign.Main.Orient.Fingers != (wr ((wr ((wr ((wr ((wr ((wr ((wr ((wr (n1 + 1)) + 1)) + 1)) + 1)) + 1)) + 1)) + 1)) + 1))) (fun q14 => ?_) (fun q14 => ?_)
      · replace h := H.t q14 h
        refine c_seq ?_
        refine r_start ?_
        refine p 1 ?_
        refine rend ?_
        replace h := H.inr h
        replace h := H.done h
        subst h
        exact ret func49 rfl (vs := [.int .i64 (-1)]) (.tmp (by kernel_rfl) .nil) rfl (fun W S => ⟨rfl, S.below⟩)
      replace h := H.f q14 h
      refine c_skip ?_
      refine c_seq ?_
      refine r_start ?_
      refine p 3 ?_
      refine rend ?_
      refine c_seq ?_
      refine c_seq ?_
      refine r_start ?_
      refine p 2 ?_
      refine xq rfl (y_idx (e := nEntry) (el := 126) hy4_2 (s_arg h0)) ?_
      refine p 4 ?_
      refine xq rfl (y_el (e := nEntry) 9 (.int .i64 y4_2.Sign.Main.Place.Region) hy4_2 (s_arg h0)) ?_
      refine p 2 ?_
      refine rend ?_
      refine c_or (y4_2.Sign.Main.Place.Region != (wr ((wr ((wr ((wr ((wr ((wr ((wr ((wr ((wr (n1 + 1)) + 1)) + 1)) + 1)) + 1)) + 1)) + 1)) + 1)) + 1))) (fun q15 => ?_) (fun q15 => ?_)
      · replace h := H.t q15 h
        refine c_seq ?_
        refine r_start ?_
        refine p 1 ?_
        refine rend ?_
        replace h := H.inr h
        replace h := H.done h
        subst h
        exact ret func49 rfl (vs := [.int .i64 (-1)]) (.tmp (by kernel_rfl) .nil) rfl (fun W S => ⟨rfl, S.below⟩)
      replace h := H.f q15 h
      refine c_skip ?_
      refine c_seq ?_
      refine r_start ?_
      refine p 3 ?_
      refine rend ?_
      refine c_seq ?_
      refine c_seq ?_
      refine r_start ?_
      refine p 2 ?_
      refine xq rfl (y_idx (e := nEntry) (el := 126) hy4_2 (s_arg h0)) ?_
      refine p 4 ?_
      refine xq rfl (y_el (e := nEntry) 10 (.int .i64 y4_2.Sign.Main.Place.Side) hy4_2 (s_arg h0)) ?_
      refine p 2 ?_
      refine rend ?_
      refine c_or (y4_2.Sign.Main.Place.Side != (wr ((wr ((wr ((wr ((wr ((wr ((wr ((wr ((wr ((wr (n1 + 1)) + 1)) + 1)) + 1)) + 1)) + 1)) + 1)) + 1)) + 1)) + 1))) (fun q16 => ?_) (fun q16 => ?_)
      · replace h := H.t q16 h
        refine c_seq ?_
        refine r_start ?_
        refine p 1 ?_
        refine rend ?_
        refine frg (fun u => (jk u 0 4 (.int .i64 (-1) :: (jk u 5 370 [])))) (by kernel_rfl) fun u => ?_
        replace h := H.inr h
        replace h := H.done h
        subst h
        exact ret func49 rfl (vs := [.int .i64 (-1)]) (.tmp (by kernel_rfl) .nil) rfl (fun W S => ⟨rfl, S.below⟩)
      replace h := H.f q16 h
      refine c_skip ?_
      refine c_seq ?_
      refine r_start ?_
      refine p 3 ?_
      refine rend ?_
      refine frg (fun u => (.slice A0 (List.length a0) k0 :: .int .i64 (wr ((wr ((wr ((wr ((wr ((wr ((wr ((wr ((wr ((wr ((wr (n1 + 1)) + 1)) + 1)) + 1)) + 1)) + 1)) + 1)) + 1)) + 1)) + 1)) + 1)) :: (jk u 2 3 (.int .i64 n2 :: (jk u 6 369 []))))) (by kernel_rfl) fun u => ?_
      refine c_seq ?_
      refine c_seq ?_
      refine r_start ?_
      refine p 2 ?_
      refine xq rfl (y_idx (e := nEntry) (el := 126) hy4_2 (s_arg h0)) ?_
      refine p 4 ?_
      refine xq rfl (y_el (e := nEntry) 11 (.bool y4_2.Sign.Main.Place.Contact) hy4_2 (s_arg h0)) ?_
      refine p 4 ?_
      refine rend ?_
      refine c_or (!(y4_2.Sign.Main.Place.Contact == ((Int.tmod (wr ((wr ((wr ((wr ((wr ((wr ((wr ((wr ((wr ((wr ((wr (n1 + 1)) + 1)) + 1)) + 1)) + 1)) + 1)) + 1)) + 1)) + 1)) + 1)) + 1)) 3) == 0))) (fun q17 => ?_) (fun q17 => ?_)
      · replace h := H.t q17 h
        refine c_seq ?_
        refine r_start ?_
        refine p 1 ?_
        refine rend ?_
        replace h := H.inr h
        replace h := H.done h
        subst h
        exact ret func49 rfl (vs := [.int .i64 (-1)]) (.tmp (by kernel_rfl) .nil) rfl (fun W S => ⟨rfl, S.below⟩)
      replace h := H.f q17 h
      refine c_skip ?_
      refine c_seq ?_
      refine r_start ?_
      refine p 3 ?_
      refine rend ?_
      refine c_seq ?_
      refine c_seq ?_
      refine as_start 11 11 ?_
      refine ap 0 2 ?_
      refine aq 2 rfl (y_idx (e := nEntry) (el := 126) hy4_2 (s_arg h0)) ?_
      refine ap 3 4 ?_
      refine aq 7 rfl (y_el (e := nEntry) 12 (.string (bs y4_2.Sign.Main.Move.Steps)) hy4_2 (s_arg h0)) ?_
      refine ap 8 1 ?_
      obtain ⟨v40_9, hv40_9, h⟩ := H.call h
      refine aq 9 rfl (y_call [.int .i64 (wr ((wr ((wr ((wr ((wr ((wr ((wr ((wr ((wr ((wr ((wr ((wr (n1 + 1)) + 1)) + 1)) + 1)) + 1)) + 1)) + 1)) + 1)) + 1)) + 1)) + 1)) + 1))] (.string (bs v40_9)) func77 (fun W S => C.l_markText W hv40_9)) ?_
      refine ap 10 1 ?_
      refine a_done ?_
      refine c_or (!seq y4_2.Sign.Main.Move.Steps v40_9) (fun q18 => ?_) (fun q18 => ?_)
      · replace h := H.t q18 h
        refine c_seq ?_
        refine r_start ?_
        refine p 1 ?_
        refine rend ?_
        replace h := H.inr h
        replace h := H.done h
        subst h
        exact ret func49 rfl (vs := [.int .i64 (-1)]) (.tmp (by kernel_rfl) .nil) rfl (fun W S => ⟨rfl, S.below⟩)
      replace h := H.f q18 h
      refine c_skip ?_
      refine c_seq ?_
      refine r_start ?_
      refine p 3 ?_
      refine rend ?_
      refine c_seq ?_
      refine c_seq ?_
      refine r_start ?_
      refine p 2 ?_
      refine xq rfl (y_idx (e := nEntry) (el := 126) hy4_2 (s_arg h0)) ?_
      refine p 4 ?_
      refine xq rfl (y_el (e := nEntry) 13 (.int .i64 y4_2.Sign.Main.Move.Repeat) hy4_2 (s_arg h0)) ?_
      refine p 2 ?_
      refine rend ?_
      refine c_or (y4_2.Sign.Main.Move.Repeat != (wr ((wr ((wr ((wr ((wr ((wr ((wr ((wr ((wr ((wr ((wr ((wr ((wr (n1 + 1)) + 1)) + 1)) + 1)) + 1)) + 1)) + 1)) + 1)) + 1)) + 1)) + 1)) + 1)) + 1))) (fun q19 => ?_) (fun q19 => ?_)
      · replace h := H.t q19 h
        refine c_seq ?_
        refine r_start ?_
        refine p 1 ?_
        refine rend ?_
        replace h := H.inr h
        replace h := H.done h
        subst h
        exact ret func49 rfl (vs := [.int .i64 (-1)]) (.tmp (by kernel_rfl) .nil) rfl (fun W S => ⟨rfl, S.below⟩)
      replace h := H.f q19 h
      refine c_skip ?_
      refine c_seq ?_
      refine r_start ?_
      refine p 3 ?_
      refine rend ?_
      refine c_seq ?_
      refine c_seq ?_
      refine r_start ?_
      refine p 2 ?_
      refine xq rfl (y_idx (e := nEntry) (el := 126) hy4_2 (s_arg h0)) ?_
      refine p 2 ?_
      refine xq rfl (y_el (e := nEntry) 14 (.bool y4_2.Sign.Two) hy4_2 (s_arg h0)) ?_
      refine p 4 ?_
      refine rend ?_
      refine c_or (!(y4_2.Sign.Two == ((Int.tmod (wr ((wr ((wr ((wr ((wr ((wr ((wr ((wr ((wr ((wr ((wr ((wr ((wr ((wr (n1 + 1)) + 1)) + 1)) + 1)) + 1)) + 1)) + 1)) + 1)) + 1)) + 1)) + 1)) + 1)) + 1)) + 1)) 3) == 0))) (fun q20 => ?_) (fun q20 => ?_)
      · replace h := H.t q20 h
        refine c_seq ?_
        refine r_start ?_
        refine p 1 ?_
        refine rend ?_
        replace h := H.inr h
        replace h := H.done h
        subst h
        exact ret func49 rfl (vs := [.int .i64 (-1)]) (.tmp (by kernel_rfl) .nil) rfl (fun W S => ⟨rfl, S.below⟩)
      replace h := H.f q20 h
      refine c_skip ?_
      refine c_seq ?_
      refine r_start ?_
      refine p 3 ?_
      refine rend ?_
      refine c_seq ?_
      refine c_seq ?_
      refine r_start ?_
      refine p 2 ?_
      refine xq rfl (y_idx (e := nEntry) (el := 126) hy4_2 (s_arg h0)) ?_
      refine p 4 ?_
      refine xq rfl (y_el (e := nEntry) 15 (.int .i64 y4_2.Sign.Other.Shape.Thumb) hy4_2 (s_arg h0)) ?_
      refine p 2 ?_
      refine rend ?_
      refine c_or (y4_2.Sign.Other.Shape.Thumb != (wr ((wr ((wr ((wr ((wr ((wr ((wr ((wr ((wr ((wr ((wr ((wr ((wr ((wr ((wr (n1 + 1)) + 1)) + 1)) + 1)) + 1)) + 1)) + 1)) + 1)) + 1)) + 1)) + 1)) + 1)) + 1)) + 1)) + 1))) (fun q21 => ?_) (fun q21 => ?_)
      · replace h := H.t q21 h
        refine c_seq ?_
        refine r_start ?_
        refine p 1 ?_
        refine rend ?_
        replace h := H.inr h
        replace h := H.done h
        subst h
        exact ret func49 rfl (vs := [.int .i64 (-1)]) (.tmp (by kernel_rfl) .nil) rfl (fun W S => ⟨rfl, S.below⟩)
      replace h := H.f q21 h
      refine c_skip ?_
      refine c_seq ?_
      refine r_start ?_
      refine p 3 ?_
      refine rend ?_
      refine c_seq ?_
      refine c_seq ?_
      refine r_start ?_
      refine p 2 ?_
      refine xq rfl (y_idx (e := nEntry) (el := 126) hy4_2 (s_arg h0)) ?_
      refine p 4 ?_
      refine xq rfl (y_el (e := nEntry) 16 (.int .i64 y4_2.Sign.Other.Shape.Index) hy4_2 (s_arg h0)) ?_
      refine p 2 ?_
      refine rend ?_
      refine c_or (y4_2.Sign.Other.Shape.Index != (wr ((wr ((wr ((wr ((wr ((wr ((wr ((wr ((wr ((wr ((wr ((wr ((wr ((wr ((wr ((wr (n1 + 1)) + 1)) + 1)) + 1)) + 1)) + 1)) + 1)) + 1)) + 1)) + 1)) + 1)) + 1)) + 1)) + 1)) + 1)) + 1))) (fun q22 => ?_) (fun q22 => ?_)
      · replace h := H.t q22 h
        refine c_seq ?_
        refine r_start ?_
        refine p 1 ?_
        refine rend ?_
        replace h := H.inr h
        replace h := H.done h
        subst h
        exact ret func49 rfl (vs := [.int .i64 (-1)]) (.tmp (by kernel_rfl) .nil) rfl (fun W S => ⟨rfl, S.below⟩)
      replace h := H.f q22 h
      refine c_skip ?_
      refine c_seq ?_
      refine r_start ?_
      refine p 3 ?_
      refine rend ?_
      refine c_seq ?_
      refine c_seq ?_
      refine r_start ?_
      refine p 2 ?_
      refine xq rfl (y_idx (e := nEntry) (el := 126) hy4_2 (s_arg h0)) ?_
      refine p 4 ?_
      refine xq rfl (y_el (e := nEntry) 17 (.int .i64 y4_2.Sign.Other.Shape.Middle) hy4_2 (s_arg h0)) ?_
      refine p 2 ?_
      refine rend ?_
      refine frg (fun u => (.slice A0 (List.length a0) k0 :: .int .i64 (wr ((wr ((wr ((wr ((wr ((wr ((wr ((wr ((wr ((wr ((wr ((wr ((wr ((wr ((wr ((wr ((wr (n1 + 1)) + 1)) + 1)) + 1)) + 1)) + 1)) + 1)) + 1)) + 1)) + 1)) + 1)) + 1)) + 1)) + 1)) + 1)) + 1)) + 1)) :: (jk u 2 3 (.int .i64 n2 :: (jk u 6 222 (.bool (y4_2.Sign.Other.Shape.Middle != (wr ((wr ((wr ((wr ((wr ((wr ((wr ((wr ((wr ((wr ((wr ((wr ((wr ((wr ((wr ((wr ((wr (n1 + 1)) + 1)) + 1)) + 1)) + 1)) + 1)) + 1)) + 1)) + 1)) + 1)) + 1)) + 1)) + 1)) + 1)) + 1)) + 1)) + 1))) :: (jk u 229 146 []))))))) (by kernel_rfl) fun u => ?_
      refine c_or (y4_2.Sign.Other.Shape.Middle != (wr ((wr ((wr ((wr ((wr ((wr ((wr ((wr ((wr ((wr ((wr ((wr ((wr ((wr ((wr ((wr ((wr (n1 + 1)) + 1)) + 1)) + 1)) + 1)) + 1)) + 1)) + 1)) + 1)) + 1)) + 1)) + 1)) + 1)) + 1)) + 1)) + 1)) + 1))) (fun q23 => ?_) (fun q23 => ?_)
      · replace h := H.t q23 h
        refine c_seq ?_
        refine r_start ?_
        refine p 1 ?_
        refine rend ?_
        replace h := H.inr h
        replace h := H.done h
        subst h
        exact ret func49 rfl (vs := [.int .i64 (-1)]) (.tmp (by kernel_rfl) .nil) rfl (fun W S => ⟨rfl, S.below⟩)
      replace h := H.f q23 h
      refine c_skip ?_
      refine c_seq ?_
      refine r_start ?_
      refine p 3 ?_
      refine rend ?_
      refine c_seq ?_
      refine c_seq ?_
      refine r_start ?_
      refine p 2 ?_
      refine xq rfl (y_idx (e := nEntry) (el := 126) hy4_2 (s_arg h0)) ?_
      refine p 4 ?_
      refine xq rfl (y_el (e := nEntry) 18 (.int .i64 y4_2.Sign.Other.Shape.Ring) hy4_2 (s_arg h0)) ?_
      refine p 2 ?_
      refine rend ?_
      refine c_or (y4_2.Sign.Other.Shape.Ring != (wr ((wr ((wr ((wr ((wr ((wr ((wr ((wr ((wr ((wr ((wr ((wr ((wr ((wr ((wr ((wr ((wr ((wr (n1 + 1)) + 1)) + 1)) + 1)) + 1)) + 1)) + 1)) + 1)) + 1)) + 1)) + 1)) + 1)) + 1)) + 1)) + 1)) + 1)) + 1)) + 1))) (fun q24 => ?_) (fun q24 => ?_)
      · replace h := H.t q24 h
        refine c_seq ?_
        refine r_start ?_
        refine p 1 ?_
        refine rend ?_
        replace h := H.inr h
        replace h := H.done h
        subst h
        exact ret func49 rfl (vs := [.int .i64 (-1)]) (.tmp (by kernel_rfl) .nil) rfl (fun W S => ⟨rfl, S.below⟩)
      replace h := H.f q24 h
      refine c_skip ?_
      refine c_seq ?_
      refine r_start ?_
      refine p 3 ?_
      refine rend ?_
      refine c_seq ?_
      refine c_seq ?_
      refine r_start ?_
      refine p 2 ?_
      refine xq rfl (y_idx (e := nEntry) (el := 126) hy4_2 (s_arg h0)) ?_
      refine p 4 ?_
      refine xq rfl (y_el (e := nEntry) 19 (.int .i64 y4_2.Sign.Other.Shape.Little) hy4_2 (s_arg h0)) ?_
      refine p 2 ?_
      refine rend ?_
      refine c_or (y4_2.Sign.Other.Shape.Little != (wr ((wr ((wr ((wr ((wr ((wr ((wr ((wr ((wr ((wr ((wr ((wr ((wr ((wr ((wr ((wr ((wr ((wr ((wr (n1 + 1)) + 1)) + 1)) + 1)) + 1)) + 1)) + 1)) + 1)) + 1)) + 1)) + 1)) + 1)) + 1)) + 1)) + 1)) + 1)) + 1)) + 1)) + 1))) (fun q25 => ?_) (fun q25 => ?_)
      · replace h := H.t q25 h
        refine c_seq ?_
        refine r_start ?_
        refine p 1 ?_
        refine rend ?_
        replace h := H.inr h
        replace h := H.done h
        subst h
        exact ret func49 rfl (vs := [.int .i64 (-1)]) (.tmp (by kernel_rfl) .nil) rfl (fun W S => ⟨rfl, S.below⟩)
      replace h := H.f q25 h
      refine c_skip ?_
      refine c_seq ?_
      refine r_start ?_
      refine p 3 ?_
      refine rend ?_
      refine c_seq ?_
      refine c_seq ?_
      refine r_start ?_
      refine p 2 ?_
      refine xq rfl (y_idx (e := nEntry) (el := 126) hy4_2 (s_arg h0)) ?_
      refine p 4 ?_
      refine xq rfl (y_el (e := nEntry) 20 (.bool y4_2.Sign.Other.Shape.Spread) hy4_2 (s_arg h0)) ?_
      refine p 4 ?_
      refine rend ?_
      refine c_or (!(y4_2.Sign.Other.Shape.Spread == ((Int.tmod (wr ((wr ((wr ((wr ((wr ((wr ((wr ((wr ((wr ((wr ((wr ((wr ((wr ((wr ((wr ((wr ((wr ((wr ((wr ((wr (n1 + 1)) + 1)) + 1)) + 1)) + 1)) + 1)) + 1)) + 1)) + 1)) + 1)) + 1)) + 1)) + 1)) + 1)) + 1)) + 1)) + 1)) + 1)) + 1)) + 1)) 3) == 0))) (fun q26 => ?_) (fun q26 => ?_)
      · replace h := H.t q26 h
        refine c_seq ?_
        refine r_start ?_
        refine p 1 ?_
        refine rend ?_
        replace h := H.inr h
        replace h := H.done h
        subst h
        exact ret func49 rfl (vs := [.int .i64 (-1)]) (.tmp (by kernel_rfl) .nil) rfl (fun W S => ⟨rfl, S.below⟩)
      replace h := H.f q26 h
      refine c_skip ?_
      refine c_seq ?_
      refine r_start ?_
      refine p 3 ?_
      refine rend ?_
      refine c_seq ?_
      refine c_seq ?_
      refine r_start ?_
      refine p 2 ?_
      refine xq rfl (y_idx (e := nEntry) (el := 126) hy4_2 (s_arg h0)) ?_
      refine p 4 ?_
      refine xq rfl (y_el (e := nEntry) 21 (.int .i64 y4_2.Sign.Other.Orient.Palm) hy4_2 (s_arg h0)) ?_
      refine p 2 ?_
      refine rend ?_
      refine c_or (y4_2.Sign.Other.Orient.Palm != (wr ((wr ((wr ((wr ((wr ((wr ((wr ((wr ((wr ((wr ((wr ((wr ((wr ((wr ((wr ((wr ((wr ((wr ((wr ((wr ((wr (n1 + 1)) + 1)) + 1)) + 1)) + 1)) + 1)) + 1)) + 1)) + 1)) + 1)) + 1)) + 1)) + 1)) + 1)) + 1)) + 1)) + 1)) + 1)) + 1)) + 1)) + 1))) (fun q27 => ?_) (fun q27 => ?_)
      · replace h := H.t q27 h
        refine c_seq ?_
        refine r_start ?_
        refine p 1 ?_
        refine rend ?_
        replace h := H.inr h
        replace h := H.done h
        subst h
        exact ret func49 rfl (vs := [.int .i64 (-1)]) (.tmp (by kernel_rfl) .nil) rfl (fun W S => ⟨rfl, S.below⟩)
      replace h := H.f q27 h
      refine c_skip ?_
      refine c_seq ?_
      refine r_start ?_
      refine p 3 ?_
      refine rend ?_
      refine c_seq ?_
      refine c_seq ?_
      refine r_start ?_
      refine p 2 ?_
      refine xq rfl (y_idx (e := nEntry) (el := 126) hy4_2 (s_arg h0)) ?_
      refine p 4 ?_
      refine xq rfl (y_el (e := nEntry) 22 (.int .i64 y4_2.Sign.Other.Orient.Fingers) hy4_2 (s_arg h0)) ?_
      refine p 2 ?_
      refine rend ?_
      refine c_or (y4_2.Sign.Other.Orient.Fingers != (wr ((wr ((wr ((wr ((wr ((wr ((wr ((wr ((wr ((wr ((wr ((wr ((wr ((wr ((wr ((wr ((wr ((wr ((wr ((wr ((wr ((wr (n1 + 1)) + 1)) + 1)) + 1)) + 1)) + 1)) + 1)) + 1)) + 1)) + 1)) + 1)) + 1)) + 1)) + 1)) + 1)) + 1)) + 1)) + 1)) + 1)) + 1)) + 1)) + 1))) (fun q28 => ?_) (fun q28 => ?_)
      · replace h := H.t q28 h
        refine c_seq ?_
        refine r_start ?_
        refine p 1 ?_
        refine rend ?_
        replace h := H.inr h
        replace h := H.done h
        subst h
        exact ret func49 rfl (vs := [.int .i64 (-1)]) (.tmp (by kernel_rfl) .nil) rfl (fun W S => ⟨rfl, S.below⟩)
      replace h := H.f q28 h
      refine c_skip ?_
      refine c_seq ?_
      refine r_start ?_
      refine p 3 ?_
      refine rend ?_
      refine c_seq ?_
      refine c_seq ?_
      refine r_start ?_
      refine p 2 ?_
      refine xq rfl (y_idx (e := nEntry) (el := 126) hy4_2 (s_arg h0)) ?_
      refine p 4 ?_
      refine xq rfl (y_el (e := nEntry) 23 (.int .i64 y4_2.Sign.Other.Place.Region) hy4_2 (s_arg h0)) ?_
      refine p 2 ?_
      refine rend ?_
      refine frg (fun u => (.slice A0 (List.length a0) k0 :: .int .i64 (wr ((wr ((wr ((wr ((wr ((wr ((wr ((wr ((wr ((wr ((wr ((wr ((wr ((wr ((wr ((wr ((wr ((wr ((wr ((wr ((wr ((wr ((wr (n1 + 1)) + 1)) + 1)) + 1)) + 1)) + 1)) + 1)) + 1)) + 1)) + 1)) + 1)) + 1)) + 1)) + 1)) + 1)) + 1)) + 1)) + 1)) + 1)) + 1)) + 1)) + 1)) + 1)) :: (jk u 2 3 (.int .i64 n2 :: (jk u 6 296 (.bool (y4_2.Sign.Other.Place.Region != (wr ((wr ((wr ((wr ((wr ((wr ((wr ((wr ((wr ((wr ((wr ((wr ((wr ((wr ((wr ((wr ((wr ((wr ((wr ((wr ((wr ((wr ((wr (n1 + 1)) + 1)) + 1)) + 1)) + 1)) + 1)) + 1)) + 1)) + 1)) + 1)) + 1)) + 1)) + 1)) + 1)) + 1)) + 1)) + 1)) + 1)) + 1)) + 1)) + 1)) + 1)) + 1))) :: (jk u 303 72 []))))))) (by kernel_rfl) fun u => ?_
      refine c_or (y4_2.Sign.Other.Place.Region != (wr ((wr ((wr ((wr ((wr ((wr ((wr ((wr ((wr ((wr ((wr ((wr ((wr ((wr ((wr ((wr ((wr ((wr ((wr ((wr ((wr ((wr ((wr (n1 + 1)) + 1)) + 1)) + 1)) + 1)) + 1)) + 1)) + 1)) + 1)) + 1)) + 1)) + 1)) + 1)) + 1)) + 1)) + 1)) + 1)) + 1)) + 1)) + 1)) + 1)) + 1)) + 1))) (fun q29 => ?_) (fun q29 => ?_)
      · replace h := H.t q29 h
        refine c_seq ?_
        refine r_start ?_
        refine p 1 ?_
        refine rend ?_
        replace h := H.inr h
        replace h := H.done h
        subst h
        exact ret func49 rfl (vs := [.int .i64 (-1)]) (.tmp (by kernel_rfl) .nil) rfl (fun W S => ⟨rfl, S.below⟩)
      replace h := H.f q29 h
      refine c_skip ?_
      refine c_seq ?_
      refine r_start ?_
      refine p 3 ?_
      refine rend ?_
      refine c_seq ?_
      refine c_seq ?_
      refine r_start ?_
      refine p 2 ?_
      refine xq rfl (y_idx (e := nEntry) (el := 126) hy4_2 (s_arg h0)) ?_
      refine p 4 ?_
      refine xq rfl (y_el (e := nEntry) 24 (.int .i64 y4_2.Sign.Other.Place.Side) hy4_2 (s_arg h0)) ?_
      refine p 2 ?_
      refine rend ?_
      refine c_or (y4_2.Sign.Other.Place.Side != (wr ((wr ((wr ((wr ((wr ((wr ((wr ((wr ((wr ((wr ((wr ((wr ((wr ((wr ((wr ((wr ((wr ((wr ((wr ((wr ((wr ((wr ((wr ((wr (n1 + 1)) + 1)) + 1)) + 1)) + 1)) + 1)) + 1)) + 1)) + 1)) + 1)) + 1)) + 1)) + 1)) + 1)) + 1)) + 1)) + 1)) + 1)) + 1)) + 1)) + 1)) + 1)) + 1)) + 1))) (fun q30 => ?_) (fun q30 => ?_)
      · replace h := H.t q30 h
        refine c_seq ?_
        refine r_start ?_
        refine p 1 ?_
        refine rend ?_
        replace h := H.inr h
        replace h := H.done h
        subst h
        exact ret func49 rfl (vs := [.int .i64 (-1)]) (.tmp (by kernel_rfl) .nil) rfl (fun W S => ⟨rfl, S.below⟩)
      replace h := H.f q30 h
      refine c_skip ?_
      refine c_seq ?_
      refine r_start ?_
      refine p 3 ?_
      refine rend ?_
      refine c_seq ?_
      refine c_seq ?_
      refine r_start ?_
      refine p 2 ?_
      refine xq rfl (y_idx (e := nEntry) (el := 126) hy4_2 (s_arg h0)) ?_
      refine p 4 ?_
      refine xq rfl (y_el (e := nEntry) 25 (.bool y4_2.Sign.Other.Place.Contact) hy4_2 (s_arg h0)) ?_
      refine p 4 ?_
      refine rend ?_
      refine c_or (!(y4_2.Sign.Other.Place.Contact == ((Int.tmod (wr ((wr ((wr ((wr ((wr ((wr ((wr ((wr ((wr ((wr ((wr ((wr ((wr ((wr ((wr ((wr ((wr ((wr ((wr ((wr ((wr ((wr ((wr ((wr ((wr (n1 + 1)) + 1)) + 1)) + 1)) + 1)) + 1)) + 1)) + 1)) + 1)) + 1)) + 1)) + 1)) + 1)) + 1)) + 1)) + 1)) + 1)) + 1)) + 1)) + 1)) + 1)) + 1)) + 1)) + 1)) + 1)) 3) == 0))) (fun q31 => ?_) (fun q31 => ?_)
      · replace h := H.t q31 h
        refine c_seq ?_
        refine r_start ?_
        refine p 1 ?_
        refine rend ?_
        replace h := H.inr h
        replace h := H.done h
        subst h
        exact ret func49 rfl (vs := [.int .i64 (-1)]) (.tmp (by kernel_rfl) .nil) rfl (fun W S => ⟨rfl, S.below⟩)
      replace h := H.f q31 h
      refine c_skip ?_
      refine c_seq ?_
      refine r_start ?_
      refine p 3 ?_
      refine rend ?_
      refine c_seq ?_
      refine c_seq ?_
      refine as_start 11 11 ?_
      refine ap 0 2 ?_
      refine aq 2 rfl (y_idx (e := nEntry) (el := 126) hy4_2 (s_arg h0)) ?_
      refine ap 3 4 ?_
      refine aq 7 rfl (y_el (e := nEntry) 26 (.string (bs y4_2.Sign.Other.Move.Steps)) hy4_2 (s_arg h0)) ?_
      refine ap 8 1 ?_
      obtain ⟨v82_9, hv82_9, h⟩ := H.call h
      refine aq 9 rfl (y_call [.int .i64 (wr ((wr ((wr ((wr ((wr ((wr ((wr ((wr ((wr ((wr ((wr ((wr ((wr ((wr ((wr ((wr ((wr ((wr ((wr ((wr ((wr ((wr ((wr ((wr ((wr ((wr (n1 + 1)) + 1)) + 1)) + 1)) + 1)) + 1)) + 1)) + 1)) + 1)) + 1)) + 1)) + 1)) + 1)) + 1)) + 1)) + 1)) + 1)) + 1)) + 1)) + 1)) + 1)) + 1)) + 1)) + 1)) + 1)) + 1))] (.string (bs v82_9)) func77 (fun W S => C.l_markText W hv82_9)) ?_
      refine ap 10 1 ?_
      refine a_done ?_
      refine c_or (!seq y4_2.Sign.Other.Move.Steps v82_9) (fun q32 => ?_) (fun q32 => ?_)
      · replace h := H.t q32 h
        refine c_seq ?_
        refine r_start ?_
        refine p 1 ?_
        refine rend ?_
        replace h := H.inr h
        replace h := H.done h
        subst h
        exact ret func49 rfl (vs := [.int .i64 (-1)]) (.tmp (by kernel_rfl) .nil) rfl (fun W S => ⟨rfl, S.below⟩)
      replace h := H.f q32 h
      refine c_skip ?_
      refine c_seq ?_
      refine r_start ?_
      refine p 3 ?_
      refine rend ?_
      refine c_seq ?_
      refine c_seq ?_
      refine r_start ?_
      refine p 2 ?_
      refine xq rfl (y_idx (e := nEntry) (el := 126) hy4_2 (s_arg h0)) ?_
      refine p 4 ?_
      refine xq rfl (y_el (e := nEntry) 27 (.int .i64 y4_2.Sign.Other.Move.Repeat) hy4_2 (s_arg h0)) ?_
      refine p 2 ?_
      refine rend ?_
      refine c_or (y4_2.Sign.Other.Move.Repeat != (wr ((wr ((wr ((wr ((wr ((wr ((wr ((wr ((wr ((wr ((wr ((wr ((wr ((wr ((wr ((wr ((wr ((wr ((wr ((wr ((wr ((wr ((wr ((wr ((wr ((wr ((wr (n1 + 1)) + 1)) + 1)) + 1)) + 1)) + 1)) + 1)) + 1)) + 1)) + 1)) + 1)) + 1)) + 1)) + 1)) + 1)) + 1)) + 1)) + 1)) + 1)) + 1)) + 1)) + 1)) + 1)) + 1)) + 1)) + 1)) + 1))) (fun q33 => ?_) (fun q33 => ?_)
      · replace h := H.t q33 h
        refine c_seq ?_
        refine r_start ?_
        refine p 1 ?_
        refine rend ?_
        replace h := H.inr h
        replace h := H.done h
        subst h
        exact ret func49 rfl (vs := [.int .i64 (-1)]) (.tmp (by kernel_rfl) .nil) rfl (fun W S => ⟨rfl, S.below⟩)
      replace h := H.f q33 h
      refine c_skip ?_
      refine c_seq ?_
      refine r_start ?_
      refine p 3 ?_
      refine rend ?_
      refine c_seq ?_
      refine c_seq ?_
      refine r_start ?_
      refine p 2 ?_
      refine xq rfl (y_idx (e := nEntry) (el := 126) hy4_2 (s_arg h0)) ?_
      refine p 1 ?_
      refine xq rfl (y_el (e := nEntry) 28 (.int .i64 y4_2.Region) hy4_2 (s_arg h0)) ?_
      refine p 2 ?_
      refine rend ?_
      refine c_or (y4_2.Region != (wr ((wr ((wr ((wr ((wr ((wr ((wr ((wr ((wr ((wr ((wr ((wr ((wr ((wr ((wr ((wr ((wr ((wr ((wr ((wr ((wr ((wr ((wr ((wr ((wr ((wr ((wr ((wr (n1 + 1)) + 1)) + 1)) + 1)) + 1)) + 1)) + 1)) + 1)) + 1)) + 1)) + 1)) + 1)) + 1)) + 1)) + 1)) + 1)) + 1)) + 1)) + 1)) + 1)) + 1)) + 1)) + 1)) + 1)) + 1)) + 1)) + 1)) + 1))) (fun q34 => ?_) (fun q34 => ?_)
      · replace h := H.t q34 h
        refine c_seq ?_
        refine r_start ?_
        refine p 1 ?_
        refine rend ?_
        replace h := H.inr h
        replace h := H.done h
        subst h
        exact ret func49 rfl (vs := [.int .i64 (-1)]) (.tmp (by kernel_rfl) .nil) rfl (fun W S => ⟨rfl, S.below⟩)
      replace h := H.f q34 h
      refine c_skip ?_
      refine c_seq ?_
      refine r_start ?_
      refine p 3 ?_
      refine rend ?_
      refine c_seq ?_
      refine c_seq ?_
      refine r_start ?_
      refine p 2 ?_
      refine xq rfl (y_idx (e := nEntry) (el := 126) hy4_2 (s_arg h0)) ?_
      refine p 1 ?_
      refine xq rfl (y_el (e := nEntry) 29 (.int .i64 y4_2.Uses) hy4_2 (s_arg h0)) ?_
      refine p 2 ?_
      refine rend ?_
      refine c_or (y4_2.Uses != (wr ((wr ((wr ((wr ((wr ((wr ((wr ((wr ((wr ((wr ((wr ((wr ((wr ((wr ((wr ((wr ((wr ((wr ((wr ((wr ((wr ((wr ((wr ((wr ((wr ((wr ((wr ((wr ((wr (n1 + 1)) + 1)) + 1)) + 1)) + 1)) + 1)) + 1)) + 1)) + 1)) + 1)) + 1)) + 1)) + 1)) + 1)) + 1)) + 1)) + 1)) + 1)) + 1)) + 1)) + 1)) + 1)) + 1)) + 1)) + 1)) + 1)) + 1)) + 1)) + 1))) (fun q35 => ?_) (fun q35 => ?_)
      · replace h := H.t q35 h
        refine c_seq ?_
        refine r_start ?_
        refine p 1 ?_
        refine rend ?_
        refine frg (fun u => (jk u 0 4 (.int .i64 (-1) :: (jk u 5 370 [])))) (by kernel_rfl) fun u => ?_
        replace h := H.inr h
        replace h := H.done h
        subst h
        exact ret func49 rfl (vs := [.int .i64 (-1)]) (.tmp (by kernel_rfl) .nil) rfl (fun W S => ⟨rfl, S.below⟩)
      replace h := H.f q35 h
      refine c_skip ?_
      refine r_start ?_
      refine p 3 ?_
      refine rend ?_
      refine frg (fun u => (.slice A0 (List.length a0) k0 :: .int .i64 (wr ((wr ((wr ((wr ((wr ((wr ((wr ((wr ((wr ((wr ((wr ((wr ((wr ((wr ((wr ((wr ((wr ((wr ((wr ((wr ((wr ((wr ((wr ((wr ((wr ((wr ((wr ((wr ((wr ((wr (n1 + 1)) + 1)) + 1)) + 1)) + 1)) + 1)) + 1)) + 1)) + 1)) + 1)) + 1)) + 1)) + 1)) + 1)) + 1)) + 1)) + 1)) + 1)) + 1)) + 1)) + 1)) + 1)) + 1)) + 1)) + 1)) + 1)) + 1)) + 1)) + 1)) + 1)) :: (jk u 2 3 (.int .i64 n2 :: (jk u 6 369 []))))) (by kernel_rfl) fun u => ?_
      refine c_inb ?_
      refine r_start ?_
      refine p 3 ?_
      refine rend ?_
      replace h := H.inl h
      exact h ((wr ((wr ((wr ((wr ((wr ((wr ((wr ((wr ((wr ((wr ((wr ((wr ((wr ((wr ((wr ((wr ((wr ((wr ((wr ((wr ((wr ((wr ((wr ((wr ((wr ((wr ((wr ((wr ((wr ((wr (n1 + 1)) + 1)) + 1)) + 1)) + 1)) + 1)) + 1)) + 1)) + 1)) + 1)) + 1)) + 1)) + 1)) + 1)) + 1)) + 1)) + 1)) + 1)) + 1)) + 1)) + 1)) + 1)) + 1)) + 1)) + 1)) + 1)) + 1)) + 1)) + 1)) + 1)), (wr (n2 + 1))) _ _ rfl (by kernel_rfl) (by kernel_rfl)
    replace h := H.f q5 h
    refine cx ?_
    replace h := H.inr h
    exact hj4 n1 _ _ h (by kernel_rfl) (by kernel_rfl)
  intro n3 u h
  refine c_seq ?_
  refine r_start ?_
  refine p 2 ?_
  refine rend ?_
  replace h := H.done h
  subst h
  exact ret func49 rfl (vs := [.int .i64 n3]) (.tmp (by kernel_rfl) .nil) rfl (fun W S => ⟨rfl, S.below⟩)
theorem C.l_FnExactDropRegion {fu : Nat} {a0 : (List Entry)} {A0 : Option Addr} {k0 : Nat} {a1 : Int} {r : Bool} (w : World) (h : X.l_FnExactDropRegion fu a0 a1 = some r) (h0 : RdT nEntry w (.slice A0 (List.length a0) k0) a0) : Calls prog 10 #[.slice A0 (List.length a0) k0, .int .i64 a1] w (Ret w (.bool r)) := by
  refine calls (M := no) (args := [.slice A0 (List.length a0) k0, .int .i64 a1]) func10 rfl ?_
  replace h : H (X.l_FnExactDropRegion fu a0 a1) (fun o => o = r) := H.mk h
  unfold X.l_FnExactDropRegion at h
  refine c_seq ?_
  refine r_start ?_
  refine p 1 ?_
  refine rend ?_
  refine c_seq ?_
  refine r_start ?_
  refine p 1 ?_
  refine rend ?_
  refine c_seq ?_
  refine r_start ?_
  refine p 2 ?_
  obtain ⟨v2_2, hv2_2, h⟩ := H.call h
  refine xq rfl (y_call [.slice A0 (List.length a0) k0, .int .i64 1048576] (.int .i64 v2_2) func43 (fun W S => C.l_szEntryS W hv2_2 ((s_arg h0).out W S))) ?_
  refine p 1 ?_
  refine rend ?_
  refine c_seq ?_
  refine c_seq ?_
  refine r_start ?_
  refine p 2 ?_
  refine rend ?_
  refine c_or (decide (v2_2 < 0)) (fun q1 => ?_) (fun q1 => ?_)
  · replace h := H.t q1 h
    refine c_seq ?_
    refine r_start ?_
    refine p 1 ?_
    refine rend ?_
    replace h := H.done h
    subst h
    exact ret func10 rfl (vs := [.bool true]) (.tmp (by kernel_rfl) .nil) rfl (fun W S => ⟨rfl, S.below⟩)
  replace h := H.f q1 h
  refine c_skip ?_
  refine c_seq ?_
  refine r_start ?_
  refine p 1 ?_
  obtain ⟨v5_1, hv5_1, h⟩ := H.call h
  refine xx rfl (e_cr [.slice A0 (List.length a0) k0] (fun v => v) func45 (fun W S => C.l_toEntryS W hv5_1 ((s_arg h0).out W S)) fun A5_1 k5_1 => ?_)
  refine p 1 ?_
  obtain ⟨v5_3, hv5_3, h⟩ := H.call h
  refine xx rfl (e_cr [.slice A5_1 (List.length v5_1) k5_1, .int .i64 a1] (fun v => .tuple #[v, .bool v5_3.2]) func44 (fun W S => C.s_DropRegion W hv5_3 ((s_own 0).out W S)) fun A5_3 k5_3 => ?_)
  refine p 5 ?_
  refine rend ?_
  refine c_seq ?_
  refine r_start ?_
  refine p 1 ?_
  obtain ⟨v6_1, hv6_1, h⟩ := H.call h
  refine xx rfl (e_cr [.slice A0 (List.length a0) k0] (fun v => v) func45 (fun W S => C.l_toEntryS W hv6_1 ((s_arg h0).out W S)) fun A6_1 k6_1 => ?_)
  refine p 1 ?_
  refine rend ?_
  refine c_seq ?_
  refine r_start ?_
  refine p 2 ?_
  obtain ⟨v7_2, hv7_2, h⟩ := H.call h
  refine xx rfl (e_cr [.slice A6_1 (List.length v6_1) k6_1, .int .i64 a1] (fun v => .tuple #[v, .bool v7_2.2]) func46 (fun W S => C.i_DropRegion W hv7_2 ((s_own 2).out W S)) fun A7_2 k7_2 => ?_)
  refine p 5 ?_
  refine rend ?_
  refine c_seq ?_
  refine c_seq ?_
  refine r_start ?_
  refine p 2 ?_
  obtain ⟨v8_2, hv8_2, h⟩ := H.call h
  refine xq rfl (y_call [.slice A7_2 (List.length v7_2.1) k7_2, .slice A5_3 (List.length v5_3.1) k5_3] (.bool v8_2) func47 (fun W S => C.l_eqEntryS W hv8_2 ((s_own 3).out W S) ((s_own 1).out W S))) ?_
  refine p 2 ?_
  refine br (!v8_2) (fun q2 => ?_) (fun q2 => ?_)
  · replace h := H.t q2 h
    refine o_set 40 (congrArg Value.bool q2) ?_
    refine p 4 ?_
    refine rend ?_
    refine c_t (by kernel_rfl) ?_
    refine c_seq ?_
    refine r_start ?_
    refine p 1 ?_
    refine rend ?_
    replace h := H.done h
    subst h
    exact ret func10 rfl (vs := [.bool false]) (.tmp (by kernel_rfl) .nil) rfl (fun W S => ⟨rfl, S.below⟩)
  replace h := H.f q2 h
  refine o_set 40 (congrArg Value.bool q2) ?_
  refine p 4 ?_
  refine rend ?_
  refine c_or (!(v7_2.2 == v5_3.2)) (fun q3 => ?_) (fun q3 => ?_)
  · replace h := H.t q3 h
    refine c_seq ?_
    refine r_start ?_
    refine p 1 ?_
    refine rend ?_
    replace h := H.done h
    subst h
    exact ret func10 rfl (vs := [.bool false]) (.tmp (by kernel_rfl) .nil) rfl (fun W S => ⟨rfl, S.below⟩)
  replace h := H.f q3 h
  refine c_skip ?_
  refine c_seq ?_
  refine c_seq ?_
  refine r_start ?_
  refine p 2 ?_
  obtain ⟨v10_2, hv10_2, h⟩ := H.call h
  refine xx rfl (e_cr [.slice A0 (List.length a0) k0] (fun v => v) func45 (fun W S => C.l_toEntryS W hv10_2 ((s_arg h0).out W S)) fun A10_2 k10_2 => ?_)
  obtain ⟨v10_3, hv10_3, h⟩ := H.call h
  refine xq rfl (y_call [.slice A6_1 (List.length v6_1) k6_1, .slice A10_2 (List.length v10_2) k10_2] (.bool v10_3) func47 (fun W S => C.l_eqEntryS W hv10_3 ((s_own 2).out W S) ((s_own 4).out W S))) ?_
  refine p 1 ?_
  refine rend ?_
  refine c_or (!v10_3) (fun q4 => ?_) (fun q4 => ?_)
  · replace h := H.t q4 h
    refine c_seq ?_
    refine r_start ?_
    refine p 1 ?_
    refine rend ?_
    replace h := H.done h
    subst h
    exact ret func10 rfl (vs := [.bool false]) (.tmp (by kernel_rfl) .nil) rfl (fun W S => ⟨rfl, S.below⟩)
  replace h := H.f q4 h
  refine c_skip ?_
  refine c_seq ?_
  refine r_start ?_
  refine p 1 ?_
  refine rend ?_
  refine c_seq ?_
  refine r_start ?_
  refine p 2 ?_
  obtain ⟨v13_2, hv13_2, h⟩ := H.call h
  refine xx rfl (e_cw (e := nEntry) (l' := v13_2.2) (v := .int .i64 v13_2.1) 2 [.slice A6_1 (List.length v6_1) k6_1, .int .i64 1] func48 (fun W S => C.l_markEntryS W hv13_2 rfl (S.row 2)) fun hl13_2 => ?_)
  refine o_set 8 (sl_len (A := A6_1) (c := k6_1) hl13_2) ?_
  refine p 1 ?_
  refine rend ?_
  refine c_seq ?_
  refine c_seq ?_
  refine r_start ?_
  refine p 3 ?_
  refine br (decide (v13_2.1 < 0)) (fun q5 => ?_) (fun q5 => ?_)
  · replace h := H.t q5 h
    refine o_set 55 (congrArg Value.bool q5) ?_
    refine p 10 ?_
    refine rend ?_
    refine frg (fun u => (.slice A0 (List.length a0) k0 :: .int .i64 a1 :: (jk u 2 4 (.slice A5_3 (List.length v5_3.1) k5_3 :: .bool v5_3.2 :: (jk u 8 1 (.slice A7_2 (List.length v7_2.1) k7_2 :: (jk u 10 55 (.bool true :: (jk u 66 35 []))))))))) (by kernel_rfl) fun u => ?_
    refine keep 5 (its' := [rowT nEntry w.heap.size 126 (.slice A5_1 (List.length v5_1) k5_1) v5_1, rowT nEntry w.heap.size 126 (.slice A5_3 (List.length v5_3.1) k5_3) v5_3.1, rowT nEntry w.heap.size 126 (.slice A6_1 (List.length v13_2.2) k6_1) v13_2.2, rowT nEntry w.heap.size 126 (.slice A7_2 (List.length v7_2.1) k7_2) v7_2.1, rowT nEntry w.heap.size 126 (.slice A10_2 (List.length v10_2) k10_2) v10_2]) (by kernel_rfl) ?_
    refine c_t (by kernel_rfl) ?_
    refine c_seq ?_
    refine r_start ?_
    refine p 1 ?_
    refine rend ?_
    replace h := H.done h
    subst h
    exact ret func10 rfl (vs := [.bool false]) (.tmp (by kernel_rfl) .nil) rfl (fun W S => ⟨rfl, S.below⟩)
  replace h := H.f q5 h
  refine o_set 55 (congrArg Value.bool q5) ?_
  refine p 2 ?_
  obtain ⟨v14_5, hv14_5, h⟩ := H.call h
  refine xq rfl (y_call [.slice A7_2 (List.length v7_2.1) k7_2, .slice A5_3 (List.length v5_3.1) k5_3] (.bool v14_5) func47 (fun W S => C.l_eqEntryS W hv14_5 ((s_own 3).out W S) ((s_own 1).out W S))) ?_
  refine p 3 ?_
  refine br (!v14_5) (fun q6 => ?_) (fun q6 => ?_)
  · replace h := H.t q6 h
    refine o_set 61 (congrArg Value.bool q6) ?_
    refine p 4 ?_
    refine rend ?_
    refine frg (fun u => (.slice A0 (List.length a0) k0 :: .int .i64 a1 :: (jk u 2 4 (.slice A5_3 (List.length v5_3.1) k5_3 :: .bool v5_3.2 :: (jk u 8 1 (.slice A7_2 (List.length v7_2.1) k7_2 :: (jk u 10 55 (.bool true :: (jk u 66 35 []))))))))) (by kernel_rfl) fun u => ?_
    refine keep 5 (its' := [rowT nEntry w.heap.size 126 (.slice A5_1 (List.length v5_1) k5_1) v5_1, rowT nEntry w.heap.size 126 (.slice A5_3 (List.length v5_3.1) k5_3) v5_3.1, rowT nEntry w.heap.size 126 (.slice A6_1 (List.length v13_2.2) k6_1) v13_2.2, rowT nEntry w.heap.size 126 (.slice A7_2 (List.length v7_2.1) k7_2) v7_2.1, rowT nEntry w.heap.size 126 (.slice A10_2 (List.length v10_2) k10_2) v10_2]) (by kernel_rfl) ?_
    refine c_t (by kernel_rfl) ?_
    refine c_seq ?_
    refine r_start ?_
    refine p 1 ?_
    refine rend ?_
    replace h := H.done h
    subst h
    exact ret func10 rfl (vs := [.bool false]) (.tmp (by kernel_rfl) .nil) rfl (fun W S => ⟨rfl, S.below⟩)
  replace h := H.f q6 h
  refine o_set 61 (congrArg Value.bool q6) ?_
  refine p 4 ?_
  refine rend ?_
  refine frg (fun u => (.slice A0 (List.length a0) k0 :: .int .i64 a1 :: (jk u 2 4 (.slice A5_3 (List.length v5_3.1) k5_3 :: .bool v5_3.2 :: (jk u 8 1 (.slice A7_2 (List.length v7_2.1) k7_2 :: (jk u 10 55 (.bool (!(v7_2.2 == v5_3.2)) :: (jk u 66 35 []))))))))) (by kernel_rfl) fun u => ?_
  refine keep 5 (its' := [rowT nEntry w.heap.size 126 (.slice A5_1 (List.length v5_1) k5_1) v5_1, rowT nEntry w.heap.size 126 (.slice A5_3 (List.length v5_3.1) k5_3) v5_3.1, rowT nEntry w.heap.size 126 (.slice A6_1 (List.length v13_2.2) k6_1) v13_2.2, rowT nEntry w.heap.size 126 (.slice A7_2 (List.length v7_2.1) k7_2) v7_2.1, rowT nEntry w.heap.size 126 (.slice A10_2 (List.length v10_2) k10_2) v10_2]) (by kernel_rfl) ?_
  refine c_no q3 ?_
  refine c_skip ?_
  refine c_seq ?_
  refine r_start ?_
  refine p 1 ?_
  refine rend ?_
  refine c_seq ?_
  refine r_start ?_
  refine p 2 ?_
  obtain ⟨v17_2, hv17_2, h⟩ := H.call h
  refine xx rfl (e_cw (e := nEntry) (l' := v17_2.2) (v := .int .i64 v17_2.1) 3 [.slice A7_2 (List.length v7_2.1) k7_2, .int .i64 1] func48 (fun W S => C.l_markEntryS W hv17_2 rfl (S.row 3)) fun hl17_2 => ?_)
  refine o_set 9 (sl_len (A := A7_2) (c := k7_2) hl17_2) ?_
  refine p 1 ?_
  refine rend ?_
  refine c_seq ?_
  refine r_start ?_
  refine p 1 ?_
  refine rend ?_
  refine c_seq ?_
  refine r_start ?_
  refine p 2 ?_
  obtain ⟨v19_2, hv19_2, h⟩ := H.call h
  refine xq rfl (y_call [.slice A7_2 (List.length v17_2.2) k7_2, .int .i64 1] (.int .i64 v19_2) func49 (fun W S => C.l_heldEntryS W hv19_2 ((s_own 3).out W S))) ?_
  refine p 1 ?_
  refine rend ?_
  refine c_seq ?_
  refine c_seq ?_
  refine r_start ?_
  refine p 2 ?_
  refine rend ?_
  refine c_or (decide (v19_2 < 0)) (fun q7 => ?_) (fun q7 => ?_)
  · replace h := H.t q7 h
    refine c_seq ?_
    refine r_start ?_
    refine p 1 ?_
    refine rend ?_
    replace h := H.done h
    subst h
    exact ret func10 rfl (vs := [.bool false]) (.tmp (by kernel_rfl) .nil) rfl (fun W S => ⟨rfl, S.below⟩)
  replace h := H.f q7 h
  refine c_skip ?_
  refine c_seq ?_
  refine c_seq ?_
  refine r_start ?_
  refine p 3 ?_
  refine rend ?_
  refine c_or (v19_2 != v17_2.1) (fun q8 => ?_) (fun q8 => ?_)
  · replace h := H.t q8 h
    refine c_seq ?_
    refine r_start ?_
    refine p 1 ?_
    refine rend ?_
    replace h := H.done h
    subst h
    exact ret func10 rfl (vs := [.bool false]) (.tmp (by kernel_rfl) .nil) rfl (fun W S => ⟨rfl, S.below⟩)
  replace h := H.f q8 h
  refine c_skip ?_
  refine c_seq ?_
  refine r_start ?_
  refine p 1 ?_
  obtain ⟨v24_1, hv24_1, h⟩ := H.call h
  refine xx rfl (e_cr [.slice A0 (List.length a0) k0] (fun v => v) func45 (fun W S => C.l_toEntryS W hv24_1 ((s_arg h0).out W S)) fun A24_1 k24_1 => ?_)
  refine p 1 ?_
  obtain ⟨v24_3, hv24_3, h⟩ := H.call h
  refine xx rfl (e_cr [.slice A24_1 (List.length v24_1) k24_1, .int .i64 a1] (fun v => .tuple #[v, .bool v24_3.2]) func46 (fun W S => C.i_DropRegion W hv24_3 ((s_own 5).out W S)) fun A24_3 k24_3 => ?_)
  refine p 5 ?_
  refine rend ?_
  refine c_seq ?_
  refine c_seq ?_
  refine r_start ?_
  refine p 2 ?_
  obtain ⟨v25_2, hv25_2, h⟩ := H.call h
  refine xq rfl (y_call [.slice A24_3 (List.length v24_3.1) k24_3, .slice A5_3 (List.length v5_3.1) k5_3] (.bool v25_2) func47 (fun W S => C.l_eqEntryS W hv25_2 ((s_own 6).out W S) ((s_own 1).out W S))) ?_
  refine p 2 ?_
  refine br (!v25_2) (fun q9 => ?_) (fun q9 => ?_)
  · replace h := H.t q9 h
    refine o_set 88 (congrArg Value.bool q9) ?_
    refine p 4 ?_
    refine rend ?_
    refine c_t (by kernel_rfl) ?_
    refine c_seq ?_
    refine r_start ?_
    refine p 1 ?_
    refine rend ?_
    replace h := H.done h
    subst h
    exact ret func10 rfl (vs := [.bool false]) (.tmp (by kernel_rfl) .nil) rfl (fun W S => ⟨rfl, S.below⟩)
  replace h := H.f q9 h
  refine o_set 88 (congrArg Value.bool q9) ?_
  refine p 4 ?_
  refine rend ?_
  refine c_or (!(v24_3.2 == v5_3.2)) (fun q10 => ?_) (fun q10 => ?_)
  · replace h := H.t q10 h
    refine c_seq ?_
    refine r_start ?_
    refine p 1 ?_
    refine rend ?_
    replace h := H.done h
    subst h
    exact ret func10 rfl (vs := [.bool false]) (.tmp (by kernel_rfl) .nil) rfl (fun W S => ⟨rfl, S.below⟩)
  replace h := H.f q10 h
  refine c_skip ?_
  refine c_seq ?_
  refine r_start ?_
  refine p 1 ?_
  refine rend ?_
  refine c_seq ?_
  refine r_start ?_
  refine p 2 ?_
  obtain ⟨v28_2, hv28_2, h⟩ := H.call h
  refine xq rfl (y_call [.slice A7_2 (List.length v17_2.2) k7_2, .int .i64 1] (.int .i64 v28_2) func49 (fun W S => C.l_heldEntryS W hv28_2 ((s_own 3).out W S))) ?_
  refine p 1 ?_
  refine rend ?_
  refine c_seq ?_
  refine c_seq ?_
  refine r_start ?_
  refine p 2 ?_
  refine rend ?_
  refine c_or (decide (v28_2 < 0)) (fun q11 => ?_) (fun q11 => ?_)
  · replace h := H.t q11 h
    refine c_seq ?_
    refine r_start ?_
    refine p 1 ?_
    refine rend ?_
    refine frg (fun u => (jk u 0 4 (.bool false :: (jk u 5 96 [])))) (by kernel_rfl) fun u => ?_
    refine keep 7 (its' := [rowT nEntry w.heap.size 126 (.slice A5_1 (List.length v5_1) k5_1) v5_1, rowT nEntry w.heap.size 126 (.slice A5_3 (List.length v5_3.1) k5_3) v5_3.1, rowT nEntry w.heap.size 126 (.slice A6_1 (List.length v13_2.2) k6_1) v13_2.2, rowT nEntry w.heap.size 126 (.slice A7_2 (List.length v17_2.2) k7_2) v17_2.2, rowT nEntry w.heap.size 126 (.slice A10_2 (List.length v10_2) k10_2) v10_2, rowT nEntry w.heap.size 126 (.slice A24_1 (List.length v24_1) k24_1) v24_1, rowT nEntry w.heap.size 126 (.slice A24_3 (List.length v24_3.1) k24_3) v24_3.1]) (by kernel_rfl) ?_
    replace h := H.done h
    subst h
    exact ret func10 rfl (vs := [.bool false]) (.tmp (by kernel_rfl) .nil) rfl (fun W S => ⟨rfl, S.below⟩)
  replace h := H.f q11 h
  refine c_skip ?_
  refine c_seq ?_
  refine c_seq ?_
  refine r_start ?_
  refine p 3 ?_
  refine rend ?_
  refine frg (fun u => (jk u 0 100 [.bool (v28_2 != v17_2.1)])) (by kernel_rfl) fun u => ?_
  refine keep 7 (its' := [rowT nEntry w.heap.size 126 (.slice A5_1 (List.length v5_1) k5_1) v5_1, rowT nEntry w.heap.size 126 (.slice A5_3 (List.length v5_3.1) k5_3) v5_3.1, rowT nEntry w.heap.size 126 (.slice A6_1 (List.length v13_2.2) k6_1) v13_2.2, rowT nEntry w.heap.size 126 (.slice A7_2 (List.length v17_2.2) k7_2) v17_2.2, rowT nEntry w.heap.size 126 (.slice A10_2 (List.length v10_2) k10_2) v10_2, rowT nEntry w.heap.size 126 (.slice A24_1 (List.length v24_1) k24_1) v24_1, rowT nEntry w.heap.size 126 (.slice A24_3 (List.length v24_3.1) k24_3) v24_3.1]) (by kernel_rfl) ?_
  refine c_or (v28_2 != v17_2.1) (fun q12 => ?_) (fun q12 => ?_)
  · replace h := H.t q12 h
    refine c_seq ?_
    refine r_start ?_
    refine p 1 ?_
    refine rend ?_
    replace h := H.done h
    subst h
    exact ret func10 rfl (vs := [.bool false]) (.tmp (by kernel_rfl) .nil) rfl (fun W S => ⟨rfl, S.below⟩)
  replace h := H.f q12 h
  refine c_skip ?_
  refine c_seq ?_
  refine r_start ?_
  refine p 1 ?_
  refine rend ?_
  replace h := H.done h
  subst h
  exact ret func10 rfl (vs := [.bool true]) (.tmp (by kernel_rfl) .nil) rfl (fun W S => ⟨rfl, S.below⟩)
end Go.Proofs.XC
