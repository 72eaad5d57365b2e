/- Contracts: each function, called where its plain function gives an answer, returns just that answer and changes nothing that was there. By AI agents; no person has read it. -/
import Derived.Test.YtjjhlccjfdcfcaaGreatDoorDExactSmoothestOrder1
set_option linter.unusedVariables false
set_option linter.unusedSimpArgs false
set_option maxRecDepth 100000
set_option maxHeartbeats 40000000
namespace Go.Proofs.XC
open Go Go.RowKit
open Tryz
theorem C.l_markSignS {fu : Nat} {a0 : (List Sign)} {A0 : Option Addr} {k0 B0 n0 : Nat} {a1 : Int} {r : (Int × (List Sign))} (w : World) (h : X.l_markSignS fu a0 a1 = some r) (hn0 : List.length a0 = n0) (h0 : World.ownsRow w B0 46 (Enc.sz nSign) (.slice A0 n0 k0) n0 (Enc.flat nSign a0)) : Calls prog 27 #[.slice A0 (n0) k0, .int .i64 a1] w (RetW nSign B0 46 A0 n0 k0 w r.2 (.int .i64 r.1)) := by
  subst hn0
  refine callsW (args := [.slice A0 (List.length a0) k0, .int .i64 a1]) rfl h0 func27 rfl ?_
  replace h : H (X.l_markSignS fu a0 a1) (fun o => o = r) := H.mk h
  unfold X.l_markSignS at h
  refine c_seq ?_
  refine r_start ?_
  refine p 1 ?_
  refine rend ?_
  refine c_seq ?_
  refine c_seq ?_
  refine r_start ?_
  refine p 1 ?_
  refine rend ?_
  refine c_block ?_
  refine joinH (X := (Int × (List Sign))) 0 (H.bnd h) (fun (x : (Int × (List Sign))) => x) (fun ⟨n4, l5⟩ => [argW nSign B0 46 A0 (List.length a0) k0 l5]) (fun ⟨n4, l5⟩ u => (jk u 0 1 (.int .i64 n4 :: (jk u 2 264 [])))) (fun h hj6 => ?_) ?_
  · skip
    refine loopR (X := (Int × Int × (List Sign))) (fun (x : (Int × Int × (List Sign))) => x) (fun ⟨n1, n2, l3⟩ => [argW nSign B0 46 A0 (List.length a0) k0 l3]) (fun ⟨n1, n2, l3⟩ u => (.slice A0 (List.length a0) k0 :: .int .i64 n1 :: (jk u 2 3 (.int .i64 n2 :: (jk u 6 260 []))))) (a1, 0, a0) h (by kernel_rfl) (by kernel_rfl) ?_
    intro x u h
    obtain ⟨n1, n2, l3⟩ := x
    refine c_seq ?_
    refine c_seq ?_
    refine r_start ?_
    refine p 4 ?_
    refine rend ?_
    refine c_or (decide (n2 < (List.length a0 : Int))) (fun q7 => ?_) (fun q7 => ?_)
    · replace h := H.t q7 h
      refine c_skip ?_
      refine c_seq ?_
      refine c_block ?_
      refine c_seq ?_
      refine r_start ?_
      refine p 3 ?_
      obtain ⟨y4_3, hy4_3, h⟩ := H.call h
      refine xq rfl (y_idxW (e := nSign) (el := 46) 0 hy4_3) ?_
      refine p 3 ?_
      refine xx rfl (e_stW (e := nSign) (b := { y4_3 with Main := { y4_3.Main with Shape := { y4_3.Main.Shape with Thumb := n1 } } }) 0 0 ([.int .i64 n1]) hy4_3 (by kernel_rfl) ?_)
      refine rend ?_
      refine c_seq ?_
      refine r_start ?_
      refine p 3 ?_
      refine rend ?_
      refine c_seq ?_
      refine r_start ?_
      refine p 3 ?_
      refine xq rfl (y_idxW (e := nSign) (el := 46) 0 (getI_set hy4_3)) ?_
      refine p 3 ?_
      refine xx rfl (e_stW2 (e := nSign) (a := { y4_3 with Main := { y4_3.Main with Shape := { y4_3.Main.Shape with Thumb := n1 } } }) (b := { y4_3 with Main := { y4_3.Main with Shape := { y4_3.Main.Shape with Thumb := n1, Index := (wr (n1 + 1)) } } }) 0 1 ([.int .i64 (wr (n1 + 1))]) hy4_3 (by kernel_rfl) ?_)
      refine rend ?_
      refine c_seq ?_
      refine r_start ?_
      refine p 3 ?_
      refine rend ?_
      refine c_seq ?_
      refine r_start ?_
      refine p 3 ?_
      refine xq rfl (y_idxW (e := nSign) (el := 46) 0 (getI_set hy4_3)) ?_
      refine p 3 ?_
      refine xx rfl (e_stW2 (e := nSign) (a := { y4_3 with Main := { y4_3.Main with Shape := { y4_3.Main.Shape with Thumb := n1, Index := (wr (n1 + 1)) } } }) (b := { y4_3 with Main := { y4_3.Main with Shape := { y4_3.Main.Shape with Thumb := n1, Index := (wr (n1 + 1)), Middle := (wr ((wr (n1 + 1)) + 1)) } } }) 0 2 ([.int .i64 (wr ((wr (n1 + 1)) + 1))]) hy4_3 (by kernel_rfl) ?_)
      refine rend ?_
      refine c_seq ?_
      refine r_start ?_
      refine p 3 ?_
      refine rend ?_
      refine c_seq ?_
      refine r_start ?_
      refine p 3 ?_
      refine xq rfl (y_idxW (e := nSign) (el := 46) 0 (getI_set hy4_3)) ?_
      refine p 3 ?_
      refine xx rfl (e_stW2 (e := nSign) (a := { y4_3 with Main := { y4_3.Main with Shape := { y4_3.Main.Shape with Thumb := n1, Index := (wr (n1 + 1)), Middle := (wr ((wr (n1 + 1)) + 1)) } } }) (b := { y4_3 with Main := { y4_3.Main with Shape := (⟨n1, (wr (n1 + 1)), (wr ((wr (n1 + 1)) + 1)), (wr ((wr ((wr (n1 + 1)) + 1)) + 1)), y4_3.Main.Shape.Little, y4_3.Main.Shape.Spread⟩ : Shape) } }) 0 3 ([.int .i64 (wr ((wr ((wr (n1 + 1)) + 1)) + 1))]) hy4_3 (by kernel_rfl) ?_)
      refine rend ?_
      refine c_seq ?_
      refine r_start ?_
      refine p 3 ?_
      refine rend ?_
      refine c_seq ?_
      refine r_start ?_
      refine p 3 ?_
      refine xq rfl (y_idxW (e := nSign) (el := 46) 0 (getI_set hy4_3)) ?_
      refine p 3 ?_
      refine xx rfl (e_stW2 (e := nSign) (a := { y4_3 with Main := { y4_3.Main with Shape := (⟨n1, (wr (n1 + 1)), (wr ((wr (n1 + 1)) + 1)), (wr ((wr ((wr (n1 + 1)) + 1)) + 1)), y4_3.Main.Shape.Little, y4_3.Main.Shape.Spread⟩ : Shape) } }) (b := { y4_3 with Main := { y4_3.Main with Shape := (⟨n1, (wr (n1 + 1)), (wr ((wr (n1 + 1)) + 1)), (wr ((wr ((wr (n1 + 1)) + 1)) + 1)), (wr ((wr ((wr ((wr (n1 + 1)) + 1)) + 1)) + 1)), y4_3.Main.Shape.Spread⟩ : Shape) } }) 0 4 ([.int .i64 (wr ((wr ((wr ((wr (n1 + 1)) + 1)) + 1)) + 1))]) hy4_3 (by kernel_rfl) ?_)
      refine rend ?_
      refine frg (fun u => (.slice A0 (List.length a0) k0 :: .int .i64 (wr ((wr ((wr ((wr (n1 + 1)) + 1)) + 1)) + 1)) :: (jk u 2 3 (.int .i64 n2 :: (jk u 6 260 []))))) (by kernel_rfl) fun u => ?_
      refine keep 1 (its' := [argW nSign B0 46 A0 (List.length a0) k0 (List.set l3 (Int.toNat n2) ({ y4_3 with Main := { y4_3.Main with Shape := (⟨n1, (wr (n1 + 1)), (wr ((wr (n1 + 1)) + 1)), (wr ((wr ((wr (n1 + 1)) + 1)) + 1)), (wr ((wr ((wr ((wr (n1 + 1)) + 1)) + 1)) + 1)), y4_3.Main.Shape.Spread⟩ : Shape) } }))]) (by kernel_rfl) ?_
      refine c_seq ?_
      refine r_start ?_
      refine p 3 ?_
      refine rend ?_
      refine c_seq ?_
      refine r_start ?_
      refine p 5 ?_
      refine xq rfl (y_idxW (e := nSign) (el := 46) 0 (getI_set hy4_3)) ?_
      refine p 3 ?_
      refine xx rfl (e_stW2 (e := nSign) (a := { y4_3 with Main := { y4_3.Main with Shape := (⟨n1, (wr (n1 + 1)), (wr ((wr (n1 + 1)) + 1)), (wr ((wr ((wr (n1 + 1)) + 1)) + 1)), (wr ((wr ((wr ((wr (n1 + 1)) + 1)) + 1)) + 1)), y4_3.Main.Shape.Spread⟩ : Shape) } }) (b := { y4_3 with Main := { y4_3.Main with Shape := (⟨n1, (wr (n1 + 1)), (wr ((wr (n1 + 1)) + 1)), (wr ((wr ((wr (n1 + 1)) + 1)) + 1)), (wr ((wr ((wr ((wr (n1 + 1)) + 1)) + 1)) + 1)), ((Int.tmod (wr ((wr ((wr ((wr ((wr (n1 + 1)) + 1)) + 1)) + 1)) + 1)) 3) == 0)⟩ : Shape) } }) 0 5 ([.bool ((Int.tmod (wr ((wr ((wr ((wr ((wr (n1 + 1)) + 1)) + 1)) + 1)) + 1)) 3) == 0)]) hy4_3 (by kernel_rfl) ?_)
      refine rend ?_
      refine c_seq ?_
      refine r_start ?_
      refine p 3 ?_
      refine rend ?_
      refine c_seq ?_
      refine r_start ?_
      refine p 3 ?_
      refine xq rfl (y_idxW (e := nSign) (el := 46) 0 (getI_set hy4_3)) ?_
      refine p 3 ?_
      refine xx rfl (e_stW2 (e := nSign) (a := { y4_3 with Main := { y4_3.Main with Shape := (⟨n1, (wr (n1 + 1)), (wr ((wr (n1 + 1)) + 1)), (wr ((wr ((wr (n1 + 1)) + 1)) + 1)), (wr ((wr ((wr ((wr (n1 + 1)) + 1)) + 1)) + 1)), ((Int.tmod (wr ((wr ((wr ((wr ((wr (n1 + 1)) + 1)) + 1)) + 1)) + 1)) 3) == 0)⟩ : Shape) } }) (b := { y4_3 with Main := { y4_3.Main with Shape := (⟨n1, (wr (n1 + 1)), (wr ((wr (n1 + 1)) + 1)), (wr ((wr ((wr (n1 + 1)) + 1)) + 1)), (wr ((wr ((wr ((wr (n1 + 1)) + 1)) + 1)) + 1)), ((Int.tmod (wr ((wr ((wr ((wr ((wr (n1 + 1)) + 1)) + 1)) + 1)) + 1)) 3) == 0)⟩ : Shape), Orient := { y4_3.Main.Orient with Palm := (wr ((wr ((wr ((wr ((wr ((wr (n1 + 1)) + 1)) + 1)) + 1)) + 1)) + 1)) } } }) 0 6 ([.int .i64 (wr ((wr ((wr ((wr ((wr ((wr (n1 + 1)) + 1)) + 1)) + 1)) + 1)) + 1))]) hy4_3 (by kernel_rfl) ?_)
      refine rend ?_
      refine c_seq ?_
      refine r_start ?_
      refine p 3 ?_
      refine rend ?_
      refine c_seq ?_
      refine r_start ?_
      refine p 3 ?_
      refine xq rfl (y_idxW (e := nSign) (el := 46) 0 (getI_set hy4_3)) ?_
      refine p 3 ?_
      refine xx rfl (e_stW2 (e := nSign) (a := { y4_3 with Main := { y4_3.Main with Shape := (⟨n1, (wr (n1 + 1)), (wr ((wr (n1 + 1)) + 1)), (wr ((wr ((wr (n1 + 1)) + 1)) + 1)), (wr ((wr ((wr ((wr (n1 + 1)) + 1)) + 1)) + 1)), ((Int.tmod (wr ((wr ((wr ((wr ((wr (n1 + 1)) + 1)) + 1)) + 1)) + 1)) 3) == 0)⟩ : Shape), Orient := { y4_3.Main.Orient with Palm := (wr ((wr ((wr ((wr ((wr ((wr (n1 + 1)) + 1)) + 1)) + 1)) + 1)) + 1)) } } }) (b := { y4_3 with Main := { y4_3.Main with Shape := (⟨n1, (wr (n1 + 1)), (wr ((wr (n1 + 1)) + 1)), (wr ((wr ((wr (n1 + 1)) + 1)) + 1)), (wr ((wr ((wr ((wr (n1 + 1)) + 1)) + 1)) + 1)), ((Int.tmod (wr ((wr ((wr ((wr ((wr (n1 + 1)) + 1)) + 1)) + 1)) + 1)) 3) == 0)⟩ : Shape), Orient := (⟨(wr ((wr ((wr ((wr ((wr ((wr (n1 + 1)) + 1)) + 1)) + 1)) + 1)) + 1)), (wr ((wr ((wr ((wr ((wr ((wr ((wr (n1 + 1)) + 1)) + 1)) + 1)) + 1)) + 1)) + 1))⟩ : Orient) } }) 0 7 ([.int .i64 (wr ((wr ((wr ((wr ((wr ((wr ((wr (n1 + 1)) + 1)) + 1)) + 1)) + 1)) + 1)) + 1))]) hy4_3 (by kernel_rfl) ?_)
      refine rend ?_
      refine c_seq ?_
      refine r_start ?_
      refine p 3 ?_
      refine rend ?_
      refine c_seq ?_
      refine r_start ?_
      refine p 3 ?_
      refine xq rfl (y_idxW (e := nSign) (el := 46) 0 (getI_set hy4_3)) ?_
      refine p 3 ?_
      refine xx rfl (e_stW2 (e := nSign) (a := { y4_3 with Main := { y4_3.Main with Shape := (⟨n1, (wr (n1 + 1)), (wr ((wr (n1 + 1)) + 1)), (wr ((wr ((wr (n1 + 1)) + 1)) + 1)), (wr ((wr ((wr ((wr (n1 + 1)) + 1)) + 1)) + 1)), ((Int.tmod (wr ((wr ((wr ((wr ((wr (n1 + 1)) + 1)) + 1)) + 1)) + 1)) 3) == 0)⟩ : Shape), Orient := (⟨(wr ((wr ((wr ((wr ((wr ((wr (n1 + 1)) + 1)) + 1)) + 1)) + 1)) + 1)), (wr ((wr ((wr ((wr ((wr ((wr ((wr (n1 + 1)) + 1)) + 1)) + 1)) + 1)) + 1)) + 1))⟩ : Orient) } }) (b := { y4_3 with Main := (⟨(⟨n1, (wr (n1 + 1)), (wr ((wr (n1 + 1)) + 1)), (wr ((wr ((wr (n1 + 1)) + 1)) + 1)), (wr ((wr ((wr ((wr (n1 + 1)) + 1)) + 1)) + 1)), ((Int.tmod (wr ((wr ((wr ((wr ((wr (n1 + 1)) + 1)) + 1)) + 1)) + 1)) 3) == 0)⟩ : Shape), (⟨(wr ((wr ((wr ((wr ((wr ((wr (n1 + 1)) + 1)) + 1)) + 1)) + 1)) + 1)), (wr ((wr ((wr ((wr ((wr ((wr ((wr (n1 + 1)) + 1)) + 1)) + 1)) + 1)) + 1)) + 1))⟩ : Orient), { y4_3.Main.Place with Region := (wr ((wr ((wr ((wr ((wr ((wr ((wr ((wr (n1 + 1)) + 1)) + 1)) + 1)) + 1)) + 1)) + 1)) + 1)) }, y4_3.Main.Move⟩ : Hand) }) 0 8 ([.int .i64 (wr ((wr ((wr ((wr ((wr ((wr ((wr ((wr (n1 + 1)) + 1)) + 1)) + 1)) + 1)) + 1)) + 1)) + 1))]) hy4_3 (by kernel_rfl) ?_)
      refine rend ?_
      refine c_seq ?_
      refine r_start ?_
      refine p 3 ?_
      refine rend ?_
      refine c_seq ?_
      refine r_start ?_
      refine p 3 ?_
      refine xq rfl (y_idxW (e := nSign) (el := 46) 0 (getI_set hy4_3)) ?_
      refine p 3 ?_
      refine xx rfl (e_stW2 (e := nSign) (a := { y4_3 with Main := (⟨(⟨n1, (wr (n1 + 1)), (wr ((wr (n1 + 1)) + 1)), (wr ((wr ((wr (n1 + 1)) + 1)) + 1)), (wr ((wr ((wr ((wr (n1 + 1)) + 1)) + 1)) + 1)), ((Int.tmod (wr ((wr ((wr ((wr ((wr (n1 + 1)) + 1)) + 1)) + 1)) + 1)) 3) == 0)⟩ : Shape), (⟨(wr ((wr ((wr ((wr ((wr ((wr (n1 + 1)) + 1)) + 1)) + 1)) + 1)) + 1)), (wr ((wr ((wr ((wr ((wr ((wr ((wr (n1 + 1)) + 1)) + 1)) + 1)) + 1)) + 1)) + 1))⟩ : Orient), { y4_3.Main.Place with Region := (wr ((wr ((wr ((wr ((wr ((wr ((wr ((wr (n1 + 1)) + 1)) + 1)) + 1)) + 1)) + 1)) + 1)) + 1)) }, y4_3.Main.Move⟩ : Hand) }) (b := { y4_3 with Main := (⟨(⟨n1, (wr (n1 + 1)), (wr ((wr (n1 + 1)) + 1)), (wr ((wr ((wr (n1 + 1)) + 1)) + 1)), (wr ((wr ((wr ((wr (n1 + 1)) + 1)) + 1)) + 1)), ((Int.tmod (wr ((wr ((wr ((wr ((wr (n1 + 1)) + 1)) + 1)) + 1)) + 1)) 3) == 0)⟩ : Shape), (⟨(wr ((wr ((wr ((wr ((wr ((wr (n1 + 1)) + 1)) + 1)) + 1)) + 1)) + 1)), (wr ((wr ((wr ((wr ((wr ((wr ((wr (n1 + 1)) + 1)) + 1)) + 1)) + 1)) + 1)) + 1))⟩ : Orient), (⟨(wr ((wr ((wr ((wr ((wr ((wr ((wr ((wr (n1 + 1)) + 1)) + 1)) + 1)) + 1)) + 1)) + 1)) + 1)), (wr ((wr ((wr ((wr ((wr ((wr ((wr ((wr ((wr (n1 + 1)) + 1)) + 1)) + 1)) + 1)) + 1)) + 1)) + 1)) + 1)), y4_3.Main.Place.Contact⟩ : Place), y4_3.Main.Move⟩ : Hand) }) 0 9 ([.int .i64 (wr ((wr ((wr ((wr ((wr ((wr ((wr ((wr ((wr (n1 + 1)) + 1)) + 1)) + 1)) + 1)) + 1)) + 1)) + 1)) + 1))]) hy4_3 (by kernel_rfl) ?_)
      refine rend ?_
      refine c_seq ?_
      refine r_start ?_
      refine p 3 ?_
      refine rend ?_
      refine c_seq ?_
      refine r_start ?_
      refine p 5 ?_
      refine xq rfl (y_idxW (e := nSign) (el := 46) 0 (getI_set hy4_3)) ?_
      refine p 3 ?_
      refine xx rfl (e_stW2 (e := nSign) (a := { y4_3 with Main := (⟨(⟨n1, (wr (n1 + 1)), (wr ((wr (n1 + 1)) + 1)), (wr ((wr ((wr (n1 + 1)) + 1)) + 1)), (wr ((wr ((wr ((wr (n1 + 1)) + 1)) + 1)) + 1)), ((Int.tmod (wr ((wr ((wr ((wr ((wr (n1 + 1)) + 1)) + 1)) + 1)) + 1)) 3) == 0)⟩ : Shape), (⟨(wr ((wr ((wr ((wr ((wr ((wr (n1 + 1)) + 1)) + 1)) + 1)) + 1)) + 1)), (wr ((wr ((wr ((wr ((wr ((wr ((wr (n1 + 1)) + 1)) + 1)) + 1)) + 1)) + 1)) + 1))⟩ : Orient), (⟨(wr ((wr ((wr ((wr ((wr ((wr ((wr ((wr (n1 + 1)) + 1)) + 1)) + 1)) + 1)) + 1)) + 1)) + 1)), (wr ((wr ((wr ((wr ((wr ((wr ((wr ((wr ((wr (n1 + 1)) + 1)) + 1)) + 1)) + 1)) + 1)) + 1)) + 1)) + 1)), y4_3.Main.Place.Contact⟩ : Place), y4_3.Main.Move⟩ : Hand) }) (b := { y4_3 with Main := (⟨(⟨n1, (wr (n1 + 1)), (wr ((wr (n1 + 1)) + 1)), (wr ((wr ((wr (n1 + 1)) + 1)) + 1)), (wr ((wr ((wr ((wr (n1 + 1)) + 1)) + 1)) + 1)), ((Int.tmod (wr ((wr ((wr ((wr ((wr (n1 + 1)) + 1)) + 1)) + 1)) + 1)) 3) == 0)⟩ : Shape), (⟨(wr ((wr ((wr ((wr ((wr ((wr (n1 + 1)) + 1)) + 1)) + 1)) + 1)) + 1)), (wr ((wr ((wr ((wr ((wr ((wr ((wr (n1 + 1)) + 1)) + 1)) + 1)) + 1)) + 1)) + 1))⟩ : Orient), (⟨(wr ((wr ((wr ((wr ((wr ((wr ((wr ((wr (n1 + 1)) + 1)) + 1)) + 1)) + 1)) + 1)) + 1)) + 1)), (wr ((wr ((wr ((wr ((wr ((wr ((wr ((wr ((wr (n1 + 1)) + 1)) + 1)) + 1)) + 1)) + 1)) + 1)) + 1)) + 1)), ((Int.tmod (wr ((wr ((wr ((wr ((wr ((wr ((wr ((wr ((wr ((wr (n1 + 1)) + 1)) + 1)) + 1)) + 1)) + 1)) + 1)) + 1)) + 1)) + 1)) 3) == 0)⟩ : Place), y4_3.Main.Move⟩ : Hand) }) 0 10 ([.bool ((Int.tmod (wr ((wr ((wr ((wr ((wr ((wr ((wr ((wr ((wr ((wr (n1 + 1)) + 1)) + 1)) + 1)) + 1)) + 1)) + 1)) + 1)) + 1)) + 1)) 3) == 0)]) hy4_3 (by kernel_rfl) ?_)
      refine rend ?_
      refine frg (fun u => (.slice A0 (List.length a0) k0 :: .int .i64 (wr ((wr ((wr ((wr ((wr ((wr ((wr ((wr ((wr ((wr (n1 + 1)) + 1)) + 1)) + 1)) + 1)) + 1)) + 1)) + 1)) + 1)) + 1)) :: (jk u 2 3 (.int .i64 n2 :: (jk u 6 260 []))))) (by kernel_rfl) fun u => ?_
      refine keep 1 (its' := [argW nSign B0 46 A0 (List.length a0) k0 (List.set l3 (Int.toNat n2) ({ y4_3 with Main := (⟨(⟨n1, (wr (n1 + 1)), (wr ((wr (n1 + 1)) + 1)), (wr ((wr ((wr (n1 + 1)) + 1)) + 1)), (wr ((wr ((wr ((wr (n1 + 1)) + 1)) + 1)) + 1)), ((Int.tmod (wr ((wr ((wr ((wr ((wr (n1 + 1)) + 1)) + 1)) + 1)) + 1)) 3) == 0)⟩ : Shape), (⟨(wr ((wr ((wr ((wr ((wr ((wr (n1 + 1)) + 1)) + 1)) + 1)) + 1)) + 1)), (wr ((wr ((wr ((wr ((wr ((wr ((wr (n1 + 1)) + 1)) + 1)) + 1)) + 1)) + 1)) + 1))⟩ : Orient), (⟨(wr ((wr ((wr ((wr ((wr ((wr ((wr ((wr (n1 + 1)) + 1)) + 1)) + 1)) + 1)) + 1)) + 1)) + 1)), (wr ((wr ((wr ((wr ((wr ((wr ((wr ((wr ((wr (n1 + 1)) + 1)) + 1)) + 1)) + 1)) + 1)) + 1)) + 1)) + 1)), ((Int.tmod (wr ((wr ((wr ((wr ((wr ((wr ((wr ((wr ((wr ((wr (n1 + 1)) + 1)) + 1)) + 1)) + 1)) + 1)) + 1)) + 1)) + 1)) + 1)) 3) == 0)⟩ : Place), y4_3.Main.Move⟩ : Hand) }))]) (by kernel_rfl) ?_
      refine c_seq ?_
      refine r_start ?_
      refine p 3 ?_
      refine rend ?_
      refine c_seq ?_
      refine r_start ?_
      refine p 3 ?_
      obtain ⟨v26_3, hv26_3, h⟩ := H.call h
      refine xq rfl (y_call [.int .i64 (wr ((wr ((wr ((wr ((wr ((wr ((wr ((wr ((wr ((wr ((wr (n1 + 1)) + 1)) + 1)) + 1)) + 1)) + 1)) + 1)) + 1)) + 1)) + 1)) + 1))] (.string (bs v26_3)) func67 (fun W S => C.l_markText W hv26_3)) ?_
      refine xq rfl (y_idxW (e := nSign) (el := 46) 0 (getI_set hy4_3)) ?_
      refine p 3 ?_
      refine xx rfl (e_stW2 (e := nSign) (a := { y4_3 with Main := (⟨(⟨n1, (wr (n1 + 1)), (wr ((wr (n1 + 1)) + 1)), (wr ((wr ((wr (n1 + 1)) + 1)) + 1)), (wr ((wr ((wr ((wr (n1 + 1)) + 1)) + 1)) + 1)), ((Int.tmod (wr ((wr ((wr ((wr ((wr (n1 + 1)) + 1)) + 1)) + 1)) + 1)) 3) == 0)⟩ : Shape), (⟨(wr ((wr ((wr ((wr ((wr ((wr (n1 + 1)) + 1)) + 1)) + 1)) + 1)) + 1)), (wr ((wr ((wr ((wr ((wr ((wr ((wr (n1 + 1)) + 1)) + 1)) + 1)) + 1)) + 1)) + 1))⟩ : Orient), (⟨(wr ((wr ((wr ((wr ((wr ((wr ((wr ((wr (n1 + 1)) + 1)) + 1)) + 1)) + 1)) + 1)) + 1)) + 1)), (wr ((wr ((wr ((wr ((wr ((wr ((wr ((wr ((wr (n1 + 1)) + 1)) + 1)) + 1)) + 1)) + 1)) + 1)) + 1)) + 1)), ((Int.tmod (wr ((wr ((wr ((wr ((wr ((wr ((wr ((wr ((wr ((wr (n1 + 1)) + 1)) + 1)) + 1)) + 1)) + 1)) + 1)) + 1)) + 1)) + 1)) 3) == 0)⟩ : Place), y4_3.Main.Move⟩ : Hand) }) (b := { y4_3 with Main := (⟨(⟨n1, (wr (n1 + 1)), (wr ((wr (n1 + 1)) + 1)), (wr ((wr ((wr (n1 + 1)) + 1)) + 1)), (wr ((wr ((wr ((wr (n1 + 1)) + 1)) + 1)) + 1)), ((Int.tmod (wr ((wr ((wr ((wr ((wr (n1 + 1)) + 1)) + 1)) + 1)) + 1)) 3) == 0)⟩ : Shape), (⟨(wr ((wr ((wr ((wr ((wr ((wr (n1 + 1)) + 1)) + 1)) + 1)) + 1)) + 1)), (wr ((wr ((wr ((wr ((wr ((wr ((wr (n1 + 1)) + 1)) + 1)) + 1)) + 1)) + 1)) + 1))⟩ : Orient), (⟨(wr ((wr ((wr ((wr ((wr ((wr ((wr ((wr (n1 + 1)) + 1)) + 1)) + 1)) + 1)) + 1)) + 1)) + 1)), (wr ((wr ((wr ((wr ((wr ((wr ((wr ((wr ((wr (n1 + 1)) + 1)) + 1)) + 1)) + 1)) + 1)) + 1)) + 1)) + 1)), ((Int.tmod (wr ((wr ((wr ((wr ((wr ((wr ((wr ((wr ((wr ((wr (n1 + 1)) + 1)) + 1)) + 1)) + 1)) + 1)) + 1)) + 1)) + 1)) + 1)) 3) == 0)⟩ : Place), { y4_3.Main.Move with Steps := v26_3 }⟩ : Hand) }) 0 11 ([.string (bs v26_3)]) hy4_3 (by kernel_rfl) ?_)
      refine rend ?_
      refine c_seq ?_
      refine r_start ?_
      refine p 3 ?_
      refine rend ?_
      refine c_seq ?_
      refine r_start ?_
      refine p 3 ?_
      refine xq rfl (y_idxW (e := nSign) (el := 46) 0 (getI_set hy4_3)) ?_
      refine p 3 ?_
      refine xx rfl (e_stW2 (e := nSign) (a := { y4_3 with Main := (⟨(⟨n1, (wr (n1 + 1)), (wr ((wr (n1 + 1)) + 1)), (wr ((wr ((wr (n1 + 1)) + 1)) + 1)), (wr ((wr ((wr ((wr (n1 + 1)) + 1)) + 1)) + 1)), ((Int.tmod (wr ((wr ((wr ((wr ((wr (n1 + 1)) + 1)) + 1)) + 1)) + 1)) 3) == 0)⟩ : Shape), (⟨(wr ((wr ((wr ((wr ((wr ((wr (n1 + 1)) + 1)) + 1)) + 1)) + 1)) + 1)), (wr ((wr ((wr ((wr ((wr ((wr ((wr (n1 + 1)) + 1)) + 1)) + 1)) + 1)) + 1)) + 1))⟩ : Orient), (⟨(wr ((wr ((wr ((wr ((wr ((wr ((wr ((wr (n1 + 1)) + 1)) + 1)) + 1)) + 1)) + 1)) + 1)) + 1)), (wr ((wr ((wr ((wr ((wr ((wr ((wr ((wr ((wr (n1 + 1)) + 1)) + 1)) + 1)) + 1)) + 1)) + 1)) + 1)) + 1)), ((Int.tmod (wr ((wr ((wr ((wr ((wr ((wr ((wr ((wr ((wr ((wr (n1 + 1)) + 1)) + 1)) + 1)) + 1)) + 1)) + 1)) + 1)) + 1)) + 1)) 3) == 0)⟩ : Place), { y4_3.Main.Move with Steps := v26_3 }⟩ : Hand) }) (b := { y4_3 with Main := (⟨(⟨n1, (wr (n1 + 1)), (wr ((wr (n1 + 1)) + 1)), (wr ((wr ((wr (n1 + 1)) + 1)) + 1)), (wr ((wr ((wr ((wr (n1 + 1)) + 1)) + 1)) + 1)), ((Int.tmod (wr ((wr ((wr ((wr ((wr (n1 + 1)) + 1)) + 1)) + 1)) + 1)) 3) == 0)⟩ : Shape), (⟨(wr ((wr ((wr ((wr ((wr ((wr (n1 + 1)) + 1)) + 1)) + 1)) + 1)) + 1)), (wr ((wr ((wr ((wr ((wr ((wr ((wr (n1 + 1)) + 1)) + 1)) + 1)) + 1)) + 1)) + 1))⟩ : Orient), (⟨(wr ((wr ((wr ((wr ((wr ((wr ((wr ((wr (n1 + 1)) + 1)) + 1)) + 1)) + 1)) + 1)) + 1)) + 1)), (wr ((wr ((wr ((wr ((wr ((wr ((wr ((wr ((wr (n1 + 1)) + 1)) + 1)) + 1)) + 1)) + 1)) + 1)) + 1)) + 1)), ((Int.tmod (wr ((wr ((wr ((wr ((wr ((wr ((wr ((wr ((wr ((wr (n1 + 1)) + 1)) + 1)) + 1)) + 1)) + 1)) + 1)) + 1)) + 1)) + 1)) 3) == 0)⟩ : Place), (⟨v26_3, (wr ((wr ((wr ((wr ((wr ((wr ((wr ((wr ((wr ((wr ((wr ((wr (n1 + 1)) + 1)) + 1)) + 1)) + 1)) + 1)) + 1)) + 1)) + 1)) + 1)) + 1)) + 1))⟩ : Move)⟩ : Hand) }) 0 12 ([.int .i64 (wr ((wr ((wr ((wr ((wr ((wr ((wr ((wr ((wr ((wr ((wr ((wr (n1 + 1)) + 1)) + 1)) + 1)) + 1)) + 1)) + 1)) + 1)) + 1)) + 1)) + 1)) + 1))]) hy4_3 (by kernel_rfl) ?_)
      refine rend ?_
      refine c_seq ?_
      refine r_start ?_
      refine p 3 ?_
      refine rend ?_
      refine c_seq ?_
      refine r_start ?_
      refine p 5 ?_
      refine xq rfl (y_idxW (e := nSign) (el := 46) 0 (getI_set hy4_3)) ?_
      refine p 1 ?_
      refine xx rfl (e_stW2 (e := nSign) (a := { y4_3 with Main := (⟨(⟨n1, (wr (n1 + 1)), (wr ((wr (n1 + 1)) + 1)), (wr ((wr ((wr (n1 + 1)) + 1)) + 1)), (wr ((wr ((wr ((wr (n1 + 1)) + 1)) + 1)) + 1)), ((Int.tmod (wr ((wr ((wr ((wr ((wr (n1 + 1)) + 1)) + 1)) + 1)) + 1)) 3) == 0)⟩ : Shape), (⟨(wr ((wr ((wr ((wr ((wr ((wr (n1 + 1)) + 1)) + 1)) + 1)) + 1)) + 1)), (wr ((wr ((wr ((wr ((wr ((wr ((wr (n1 + 1)) + 1)) + 1)) + 1)) + 1)) + 1)) + 1))⟩ : Orient), (⟨(wr ((wr ((wr ((wr ((wr ((wr ((wr ((wr (n1 + 1)) + 1)) + 1)) + 1)) + 1)) + 1)) + 1)) + 1)), (wr ((wr ((wr ((wr ((wr ((wr ((wr ((wr ((wr (n1 + 1)) + 1)) + 1)) + 1)) + 1)) + 1)) + 1)) + 1)) + 1)), ((Int.tmod (wr ((wr ((wr ((wr ((wr ((wr ((wr ((wr ((wr ((wr (n1 + 1)) + 1)) + 1)) + 1)) + 1)) + 1)) + 1)) + 1)) + 1)) + 1)) 3) == 0)⟩ : Place), (⟨v26_3, (wr ((wr ((wr ((wr ((wr ((wr ((wr ((wr ((wr ((wr ((wr ((wr (n1 + 1)) + 1)) + 1)) + 1)) + 1)) + 1)) + 1)) + 1)) + 1)) + 1)) + 1)) + 1))⟩ : Move)⟩ : Hand) }) (b := (⟨(⟨(⟨n1, (wr (n1 + 1)), (wr ((wr (n1 + 1)) + 1)), (wr ((wr ((wr (n1 + 1)) + 1)) + 1)), (wr ((wr ((wr ((wr (n1 + 1)) + 1)) + 1)) + 1)), ((Int.tmod (wr ((wr ((wr ((wr ((wr (n1 + 1)) + 1)) + 1)) + 1)) + 1)) 3) == 0)⟩ : Shape), (⟨(wr ((wr ((wr ((wr ((wr ((wr (n1 + 1)) + 1)) + 1)) + 1)) + 1)) + 1)), (wr ((wr ((wr ((wr ((wr ((wr ((wr (n1 + 1)) + 1)) + 1)) + 1)) + 1)) + 1)) + 1))⟩ : Orient), (⟨(wr ((wr ((wr ((wr ((wr ((wr ((wr ((wr (n1 + 1)) + 1)) + 1)) + 1)) + 1)) + 1)) + 1)) + 1)), (wr ((wr ((wr ((wr ((wr ((wr ((wr ((wr ((wr (n1 + 1)) + 1)) + 1)) + 1)) + 1)) + 1)) + 1)) + 1)) + 1)), ((Int.tmod (wr ((wr ((wr ((wr ((wr ((wr ((wr ((wr ((wr ((wr (n1 + 1)) + 1)) + 1)) + 1)) + 1)) + 1)) + 1)) + 1)) + 1)) + 1)) 3) == 0)⟩ : Place), (⟨v26_3, (wr ((wr ((wr ((wr ((wr ((wr ((wr ((wr ((wr ((wr ((wr ((wr (n1 + 1)) + 1)) + 1)) + 1)) + 1)) + 1)) + 1)) + 1)) + 1)) + 1)) + 1)) + 1))⟩ : Move)⟩ : Hand), ((Int.tmod (wr ((wr ((wr ((wr ((wr ((wr ((wr ((wr ((wr ((wr ((wr ((wr ((wr (n1 + 1)) + 1)) + 1)) + 1)) + 1)) + 1)) + 1)) + 1)) + 1)) + 1)) + 1)) + 1)) + 1)) 3) == 0), y4_3.Other⟩ : Sign)) 0 13 ([.bool ((Int.tmod (wr ((wr ((wr ((wr ((wr ((wr ((wr ((wr ((wr ((wr ((wr ((wr ((wr (n1 + 1)) + 1)) + 1)) + 1)) + 1)) + 1)) + 1)) + 1)) + 1)) + 1)) + 1)) + 1)) + 1)) 3) == 0)]) hy4_3 (by kernel_rfl) ?_)
      refine rend ?_
      refine c_seq ?_
      refine r_start ?_
      refine p 3 ?_
      refine rend ?_
      refine c_seq ?_
      refine r_start ?_
      refine p 3 ?_
      refine xq rfl (y_idxW (e := nSign) (el := 46) 0 (getI_set hy4_3)) ?_
      refine p 3 ?_
      refine xx rfl (e_stW2 (e := nSign) (a := (⟨(⟨(⟨n1, (wr (n1 + 1)), (wr ((wr (n1 + 1)) + 1)), (wr ((wr ((wr (n1 + 1)) + 1)) + 1)), (wr ((wr ((wr ((wr (n1 + 1)) + 1)) + 1)) + 1)), ((Int.tmod (wr ((wr ((wr ((wr ((wr (n1 + 1)) + 1)) + 1)) + 1)) + 1)) 3) == 0)⟩ : Shape), (⟨(wr ((wr ((wr ((wr ((wr ((wr (n1 + 1)) + 1)) + 1)) + 1)) + 1)) + 1)), (wr ((wr ((wr ((wr ((wr ((wr ((wr (n1 + 1)) + 1)) + 1)) + 1)) + 1)) + 1)) + 1))⟩ : Orient), (⟨(wr ((wr ((wr ((wr ((wr ((wr ((wr ((wr (n1 + 1)) + 1)) + 1)) + 1)) + 1)) + 1)) + 1)) + 1)), (wr ((wr ((wr ((wr ((wr ((wr ((wr ((wr ((wr (n1 + 1)) + 1)) + 1)) + 1)) + 1)) + 1)) + 1)) + 1)) + 1)), ((Int.tmod (wr ((wr ((wr ((wr ((wr ((wr ((wr ((wr ((wr ((wr (n1 + 1)) + 1)) + 1)) + 1)) + 1)) + 1)) + 1)) + 1)) + 1)) + 1)) 3) == 0)⟩ : Place), (⟨v26_3, (wr ((wr ((wr ((wr ((wr ((wr ((wr ((wr ((wr ((wr ((wr ((wr (n1 + 1)) + 1)) + 1)) + 1)) + 1)) + 1)) + 1)) + 1)) + 1)) + 1)) + 1)) + 1))⟩ : Move)⟩ : Hand), ((Int.tmod (wr ((wr ((wr ((wr ((wr ((wr ((wr ((wr ((wr ((wr ((wr ((wr ((wr (n1 + 1)) + 1)) + 1)) + 1)) + 1)) + 1)) + 1)) + 1)) + 1)) + 1)) + 1)) + 1)) + 1)) 3) == 0), y4_3.Other⟩ : Sign)) (b := (⟨(⟨(⟨n1, (wr (n1 + 1)), (wr ((wr (n1 + 1)) + 1)), (wr ((wr ((wr (n1 + 1)) + 1)) + 1)), (wr ((wr ((wr ((wr (n1 + 1)) + 1)) + 1)) + 1)), ((Int.tmod (wr ((wr ((wr ((wr ((wr (n1 + 1)) + 1)) + 1)) + 1)) + 1)) 3) == 0)⟩ : Shape), (⟨(wr ((wr ((wr ((wr ((wr ((wr (n1 + 1)) + 1)) + 1)) + 1)) + 1)) + 1)), (wr ((wr ((wr ((wr ((wr ((wr ((wr (n1 + 1)) + 1)) + 1)) + 1)) + 1)) + 1)) + 1))⟩ : Orient), (⟨(wr ((wr ((wr ((wr ((wr ((wr ((wr ((wr (n1 + 1)) + 1)) + 1)) + 1)) + 1)) + 1)) + 1)) + 1)), (wr ((wr ((wr ((wr ((wr ((wr ((wr ((wr ((wr (n1 + 1)) + 1)) + 1)) + 1)) + 1)) + 1)) + 1)) + 1)) + 1)), ((Int.tmod (wr ((wr ((wr ((wr ((wr ((wr ((wr ((wr ((wr ((wr (n1 + 1)) + 1)) + 1)) + 1)) + 1)) + 1)) + 1)) + 1)) + 1)) + 1)) 3) == 0)⟩ : Place), (⟨v26_3, (wr ((wr ((wr ((wr ((wr ((wr ((wr ((wr ((wr ((wr ((wr ((wr (n1 + 1)) + 1)) + 1)) + 1)) + 1)) + 1)) + 1)) + 1)) + 1)) + 1)) + 1)) + 1))⟩ : Move)⟩ : Hand), ((Int.tmod (wr ((wr ((wr ((wr ((wr ((wr ((wr ((wr ((wr ((wr ((wr ((wr ((wr (n1 + 1)) + 1)) + 1)) + 1)) + 1)) + 1)) + 1)) + 1)) + 1)) + 1)) + 1)) + 1)) + 1)) 3) == 0), { y4_3.Other with Shape := { y4_3.Other.Shape with Thumb := (wr ((wr ((wr ((wr ((wr ((wr ((wr ((wr ((wr ((wr ((wr ((wr ((wr ((wr (n1 + 1)) + 1)) + 1)) + 1)) + 1)) + 1)) + 1)) + 1)) + 1)) + 1)) + 1)) + 1)) + 1)) + 1)) } }⟩ : Sign)) 0 14 ([.int .i64 (wr ((wr ((wr ((wr ((wr ((wr ((wr ((wr ((wr ((wr ((wr ((wr ((wr ((wr (n1 + 1)) + 1)) + 1)) + 1)) + 1)) + 1)) + 1)) + 1)) + 1)) + 1)) + 1)) + 1)) + 1)) + 1))]) hy4_3 (by kernel_rfl) ?_)
      refine rend ?_
      refine c_seq ?_
      refine r_start ?_
      refine p 3 ?_
      refine rend ?_
      refine c_seq ?_
      refine r_start ?_
      refine p 3 ?_
      refine xq rfl (y_idxW (e := nSign) (el := 46) 0 (getI_set hy4_3)) ?_
      refine p 3 ?_
      refine xx rfl (e_stW2 (e := nSign) (a := (⟨(⟨(⟨n1, (wr (n1 + 1)), (wr ((wr (n1 + 1)) + 1)), (wr ((wr ((wr (n1 + 1)) + 1)) + 1)), (wr ((wr ((wr ((wr (n1 + 1)) + 1)) + 1)) + 1)), ((Int.tmod (wr ((wr ((wr ((wr ((wr (n1 + 1)) + 1)) + 1)) + 1)) + 1)) 3) == 0)⟩ : Shape), (⟨(wr ((wr ((wr ((wr ((wr ((wr (n1 + 1)) + 1)) + 1)) + 1)) + 1)) + 1)), (wr ((wr ((wr ((wr ((wr ((wr ((wr (n1 + 1)) + 1)) + 1)) + 1)) + 1)) + 1)) + 1))⟩ : Orient), (⟨(wr ((wr ((wr ((wr ((wr ((wr ((wr ((wr (n1 + 1)) + 1)) + 1)) + 1)) + 1)) + 1)) + 1)) + 1)), (wr ((wr ((wr ((wr ((wr ((wr ((wr ((wr ((wr (n1 + 1)) + 1)) + 1)) + 1)) + 1)) + 1)) + 1)) + 1)) + 1)), ((Int.tmod (wr ((wr ((wr ((wr ((wr ((wr ((wr ((wr ((wr ((wr (n1 + 1)) + 1)) + 1)) + 1)) + 1)) + 1)) + 1)) + 1)) + 1)) + 1)) 3) == 0)⟩ : Place), (⟨v26_3, (wr ((wr ((wr ((wr ((wr ((wr ((wr ((wr ((wr ((wr ((wr ((wr (n1 + 1)) + 1)) + 1)) + 1)) + 1)) + 1)) + 1)) + 1)) + 1)) + 1)) + 1)) + 1))⟩ : Move)⟩ : Hand), ((Int.tmod (wr ((wr ((wr ((wr ((wr ((wr ((wr ((wr ((wr ((wr ((wr ((wr ((wr (n1 + 1)) + 1)) + 1)) + 1)) + 1)) + 1)) + 1)) + 1)) + 1)) + 1)) + 1)) + 1)) + 1)) 3) == 0), { y4_3.Other with Shape := { y4_3.Other.Shape with Thumb := (wr ((wr ((wr ((wr ((wr ((wr ((wr ((wr ((wr ((wr ((wr ((wr ((wr ((wr (n1 + 1)) + 1)) + 1)) + 1)) + 1)) + 1)) + 1)) + 1)) + 1)) + 1)) + 1)) + 1)) + 1)) + 1)) } }⟩ : Sign)) (b := (⟨(⟨(⟨n1, (wr (n1 + 1)), (wr ((wr (n1 + 1)) + 1)), (wr ((wr ((wr (n1 + 1)) + 1)) + 1)), (wr ((wr ((wr ((wr (n1 + 1)) + 1)) + 1)) + 1)), ((Int.tmod (wr ((wr ((wr ((wr ((wr (n1 + 1)) + 1)) + 1)) + 1)) + 1)) 3) == 0)⟩ : Shape), (⟨(wr ((wr ((wr ((wr ((wr ((wr (n1 + 1)) + 1)) + 1)) + 1)) + 1)) + 1)), (wr ((wr ((wr ((wr ((wr ((wr ((wr (n1 + 1)) + 1)) + 1)) + 1)) + 1)) + 1)) + 1))⟩ : Orient), (⟨(wr ((wr ((wr ((wr ((wr ((wr ((wr ((wr (n1 + 1)) + 1)) + 1)) + 1)) + 1)) + 1)) + 1)) + 1)), (wr ((wr ((wr ((wr ((wr ((wr ((wr ((wr ((wr (n1 + 1)) + 1)) + 1)) + 1)) + 1)) + 1)) + 1)) + 1)) + 1)), ((Int.tmod (wr ((wr ((wr ((wr ((wr ((wr ((wr ((wr ((wr ((wr (n1 + 1)) + 1)) + 1)) + 1)) + 1)) + 1)) + 1)) + 1)) + 1)) + 1)) 3) == 0)⟩ : Place), (⟨v26_3, (wr ((wr ((wr ((wr ((wr ((wr ((wr ((wr ((wr ((wr ((wr ((wr (n1 + 1)) + 1)) + 1)) + 1)) + 1)) + 1)) + 1)) + 1)) + 1)) + 1)) + 1)) + 1))⟩ : Move)⟩ : Hand), ((Int.tmod (wr ((wr ((wr ((wr ((wr ((wr ((wr ((wr ((wr ((wr ((wr ((wr ((wr (n1 + 1)) + 1)) + 1)) + 1)) + 1)) + 1)) + 1)) + 1)) + 1)) + 1)) + 1)) + 1)) + 1)) 3) == 0), { y4_3.Other with Shape := { y4_3.Other.Shape with Thumb := (wr ((wr ((wr ((wr ((wr ((wr ((wr ((wr ((wr ((wr ((wr ((wr ((wr ((wr (n1 + 1)) + 1)) + 1)) + 1)) + 1)) + 1)) + 1)) + 1)) + 1)) + 1)) + 1)) + 1)) + 1)) + 1)), Index := (wr ((wr ((wr ((wr ((wr ((wr ((wr ((wr ((wr ((wr ((wr ((wr ((wr ((wr ((wr (n1 + 1)) + 1)) + 1)) + 1)) + 1)) + 1)) + 1)) + 1)) + 1)) + 1)) + 1)) + 1)) + 1)) + 1)) + 1)) } }⟩ : Sign)) 0 15 ([.int .i64 (wr ((wr ((wr ((wr ((wr ((wr ((wr ((wr ((wr ((wr ((wr ((wr ((wr ((wr ((wr (n1 + 1)) + 1)) + 1)) + 1)) + 1)) + 1)) + 1)) + 1)) + 1)) + 1)) + 1)) + 1)) + 1)) + 1)) + 1))]) hy4_3 (by kernel_rfl) ?_)
      refine rend ?_
      refine c_seq ?_
      refine r_start ?_
      refine p 3 ?_
      refine rend ?_
      refine c_seq ?_
      refine r_start ?_
      refine p 3 ?_
      refine xq rfl (y_idxW (e := nSign) (el := 46) 0 (getI_set hy4_3)) ?_
      refine p 3 ?_
      refine xx rfl (e_stW2 (e := nSign) (a := (⟨(⟨(⟨n1, (wr (n1 + 1)), (wr ((wr (n1 + 1)) + 1)), (wr ((wr ((wr (n1 + 1)) + 1)) + 1)), (wr ((wr ((wr ((wr (n1 + 1)) + 1)) + 1)) + 1)), ((Int.tmod (wr ((wr ((wr ((wr ((wr (n1 + 1)) + 1)) + 1)) + 1)) + 1)) 3) == 0)⟩ : Shape), (⟨(wr ((wr ((wr ((wr ((wr ((wr (n1 + 1)) + 1)) + 1)) + 1)) + 1)) + 1)), (wr ((wr ((wr ((wr ((wr ((wr ((wr (n1 + 1)) + 1)) + 1)) + 1)) + 1)) + 1)) + 1))⟩ : Orient), (⟨(wr ((wr ((wr ((wr ((wr ((wr ((wr ((wr (n1 + 1)) + 1)) + 1)) + 1)) + 1)) + 1)) + 1)) + 1)), (wr ((wr ((wr ((wr ((wr ((wr ((wr ((wr ((wr (n1 + 1)) + 1)) + 1)) + 1)) + 1)) + 1)) + 1)) + 1)) + 1)), ((Int.tmod (wr ((wr ((wr ((wr ((wr ((wr ((wr ((wr ((wr ((wr (n1 + 1)) + 1)) + 1)) + 1)) + 1)) + 1)) + 1)) + 1)) + 1)) + 1)) 3) == 0)⟩ : Place), (⟨v26_3, (wr ((wr ((wr ((wr ((wr ((wr ((wr ((wr ((wr ((wr ((wr ((wr (n1 + 1)) + 1)) + 1)) + 1)) + 1)) + 1)) + 1)) + 1)) + 1)) + 1)) + 1)) + 1))⟩ : Move)⟩ : Hand), ((Int.tmod (wr ((wr ((wr ((wr ((wr ((wr ((wr ((wr ((wr ((wr ((wr ((wr ((wr (n1 + 1)) + 1)) + 1)) + 1)) + 1)) + 1)) + 1)) + 1)) + 1)) + 1)) + 1)) + 1)) + 1)) 3) == 0), { y4_3.Other with Shape := { y4_3.Other.Shape with Thumb := (wr ((wr ((wr ((wr ((wr ((wr ((wr ((wr ((wr ((wr ((wr ((wr ((wr ((wr (n1 + 1)) + 1)) + 1)) + 1)) + 1)) + 1)) + 1)) + 1)) + 1)) + 1)) + 1)) + 1)) + 1)) + 1)), Index := (wr ((wr ((wr ((wr ((wr ((wr ((wr ((wr ((wr ((wr ((wr ((wr ((wr ((wr ((wr (n1 + 1)) + 1)) + 1)) + 1)) + 1)) + 1)) + 1)) + 1)) + 1)) + 1)) + 1)) + 1)) + 1)) + 1)) + 1)) } }⟩ : Sign)) (b := (⟨(⟨(⟨n1, (wr (n1 + 1)), (wr ((wr (n1 + 1)) + 1)), (wr ((wr ((wr (n1 + 1)) + 1)) + 1)), (wr ((wr ((wr ((wr (n1 + 1)) + 1)) + 1)) + 1)), ((Int.tmod (wr ((wr ((wr ((wr ((wr (n1 + 1)) + 1)) + 1)) + 1)) + 1)) 3) == 0)⟩ : Shape), (⟨(wr ((wr ((wr ((wr ((wr ((wr (n1 + 1)) + 1)) + 1)) + 1)) + 1)) + 1)), (wr ((wr ((wr ((wr ((wr ((wr ((wr (n1 + 1)) + 1)) + 1)) + 1)) + 1)) + 1)) + 1))⟩ : Orient), (⟨(wr ((wr ((wr ((wr ((wr ((wr ((wr ((wr (n1 + 1)) + 1)) + 1)) + 1)) + 1)) + 1)) + 1)) + 1)), (wr ((wr ((wr ((wr ((wr ((wr ((wr ((wr ((wr (n1 + 1)) + 1)) + 1)) + 1)) + 1)) + 1)) + 1)) + 1)) + 1)), ((Int.tmod (wr ((wr ((wr ((wr ((wr ((wr ((wr ((wr ((wr ((wr (n1 + 1)) + 1)) + 1)) + 1)) + 1)) + 1)) + 1)) + 1)) + 1)) + 1)) 3) == 0)⟩ : Place), (⟨v26_3, (wr ((wr ((wr ((wr ((wr ((wr ((wr ((wr ((wr ((wr ((wr ((wr (n1 + 1)) + 1)) + 1)) + 1)) + 1)) + 1)) + 1)) + 1)) + 1)) + 1)) + 1)) + 1))⟩ : Move)⟩ : Hand), ((Int.tmod (wr ((wr ((wr ((wr ((wr ((wr ((wr ((wr ((wr ((wr ((wr ((wr ((wr (n1 + 1)) + 1)) + 1)) + 1)) + 1)) + 1)) + 1)) + 1)) + 1)) + 1)) + 1)) + 1)) + 1)) 3) == 0), { y4_3.Other with Shape := { y4_3.Other.Shape with Thumb := (wr ((wr ((wr ((wr ((wr ((wr ((wr ((wr ((wr ((wr ((wr ((wr ((wr ((wr (n1 + 1)) + 1)) + 1)) + 1)) + 1)) + 1)) + 1)) + 1)) + 1)) + 1)) + 1)) + 1)) + 1)) + 1)), Index := (wr ((wr ((wr ((wr ((wr ((wr ((wr ((wr ((wr ((wr ((wr ((wr ((wr ((wr ((wr (n1 + 1)) + 1)) + 1)) + 1)) + 1)) + 1)) + 1)) + 1)) + 1)) + 1)) + 1)) + 1)) + 1)) + 1)) + 1)), Middle := (wr ((wr ((wr ((wr ((wr ((wr ((wr ((wr ((wr ((wr ((wr ((wr ((wr ((wr ((wr ((wr (n1 + 1)) + 1)) + 1)) + 1)) + 1)) + 1)) + 1)) + 1)) + 1)) + 1)) + 1)) + 1)) + 1)) + 1)) + 1)) + 1)) } }⟩ : Sign)) 0 16 ([.int .i64 (wr ((wr ((wr ((wr ((wr ((wr ((wr ((wr ((wr ((wr ((wr ((wr ((wr ((wr ((wr ((wr (n1 + 1)) + 1)) + 1)) + 1)) + 1)) + 1)) + 1)) + 1)) + 1)) + 1)) + 1)) + 1)) + 1)) + 1)) + 1)) + 1))]) hy4_3 (by kernel_rfl) ?_)
      refine rend ?_
      refine frg (fun u => (.slice A0 (List.length a0) k0 :: .int .i64 (wr ((wr ((wr ((wr ((wr ((wr ((wr ((wr ((wr ((wr ((wr ((wr ((wr ((wr ((wr ((wr (n1 + 1)) + 1)) + 1)) + 1)) + 1)) + 1)) + 1)) + 1)) + 1)) + 1)) + 1)) + 1)) + 1)) + 1)) + 1)) + 1)) :: (jk u 2 3 (.int .i64 n2 :: (jk u 6 260 []))))) (by kernel_rfl) fun u => ?_
      refine keep 1 (its' := [argW nSign B0 46 A0 (List.length a0) k0 (List.set l3 (Int.toNat n2) (⟨(⟨(⟨n1, (wr (n1 + 1)), (wr ((wr (n1 + 1)) + 1)), (wr ((wr ((wr (n1 + 1)) + 1)) + 1)), (wr ((wr ((wr ((wr (n1 + 1)) + 1)) + 1)) + 1)), ((Int.tmod (wr ((wr ((wr ((wr ((wr (n1 + 1)) + 1)) + 1)) + 1)) + 1)) 3) == 0)⟩ : Shape), (⟨(wr ((wr ((wr ((wr ((wr ((wr (n1 + 1)) + 1)) + 1)) + 1)) + 1)) + 1)), (wr ((wr ((wr ((wr ((wr ((wr ((wr (n1 + 1)) + 1)) + 1)) + 1)) + 1)) + 1)) + 1))⟩ : Orient), (⟨(wr ((wr ((wr ((wr ((wr ((wr ((wr ((wr (n1 + 1)) + 1)) + 1)) + 1)) + 1)) + 1)) + 1)) + 1)), (wr ((wr ((wr ((wr ((wr ((wr ((wr ((wr ((wr (n1 + 1)) + 1)) + 1)) + 1)) + 1)) + 1)) + 1)) + 1)) + 1)), ((Int.tmod (wr ((wr ((wr ((wr ((wr ((wr ((wr ((wr ((wr ((wr (n1 + 1)) + 1)) + 1)) + 1)) + 1)) + 1)) + 1)) + 1)) + 1)) + 1)) 3) == 0)⟩ : Place), (⟨v26_3, (wr ((wr ((wr ((wr ((wr ((wr ((wr ((wr ((wr ((wr ((wr ((wr (n1 + 1)) + 1)) + 1)) + 1)) + 1)) + 1)) + 1)) + 1)) + 1)) + 1)) + 1)) + 1))⟩ : Move)⟩ : Hand), ((Int.tmod (wr ((wr ((wr ((wr ((wr ((wr ((wr ((wr ((wr ((wr ((wr ((wr ((wr (n1 + 1)) + 1)) + 1)) + 1)) + 1)) + 1)) + 1)) + 1)) + 1)) + 1)) + 1)) + 1)) + 1)) 3) == 0), { y4_3.Other with Shape := { y4_3.Other.Shape with Thumb := (wr ((wr ((wr ((wr ((wr ((wr ((wr ((wr ((wr ((wr ((wr ((wr ((wr ((wr (n1 + 1)) + 1)) + 1)) + 1)) + 1)) + 1)) + 1)) + 1)) + 1)) + 1)) + 1)) + 1)) + 1)) + 1)), Index := (wr ((wr ((wr ((wr ((wr ((wr ((wr ((wr ((wr ((wr ((wr ((wr ((wr ((wr ((wr (n1 + 1)) + 1)) + 1)) + 1)) + 1)) + 1)) + 1)) + 1)) + 1)) + 1)) + 1)) + 1)) + 1)) + 1)) + 1)), Middle := (wr ((wr ((wr ((wr ((wr ((wr ((wr ((wr ((wr ((wr ((wr ((wr ((wr ((wr ((wr ((wr (n1 + 1)) + 1)) + 1)) + 1)) + 1)) + 1)) + 1)) + 1)) + 1)) + 1)) + 1)) + 1)) + 1)) + 1)) + 1)) + 1)) } }⟩ : Sign))]) (by kernel_rfl) ?_
      refine c_seq ?_
      refine r_start ?_
      refine p 3 ?_
      refine rend ?_
      refine c_seq ?_
      refine r_start ?_
      refine p 3 ?_
      refine xq rfl (y_idxW (e := nSign) (el := 46) 0 (getI_set hy4_3)) ?_
      refine p 3 ?_
      refine xx rfl (e_stW2 (e := nSign) (a := (⟨(⟨(⟨n1, (wr (n1 + 1)), (wr ((wr (n1 + 1)) + 1)), (wr ((wr ((wr (n1 + 1)) + 1)) + 1)), (wr ((wr ((wr ((wr (n1 + 1)) + 1)) + 1)) + 1)), ((Int.tmod (wr ((wr ((wr ((wr ((wr (n1 + 1)) + 1)) + 1)) + 1)) + 1)) 3) == 0)⟩ : Shape), (⟨(wr ((wr ((wr ((wr ((wr ((wr (n1 + 1)) + 1)) + 1)) + 1)) + 1)) + 1)), (wr ((wr ((wr ((wr ((wr ((wr ((wr (n1 + 1)) + 1)) + 1)) + 1)) + 1)) + 1)) + 1))⟩ : Orient), (⟨(wr ((wr ((wr ((wr ((wr ((wr ((wr ((wr (n1 + 1)) + 1)) + 1)) + 1)) + 1)) + 1)) + 1)) + 1)), (wr ((wr ((wr ((wr ((wr ((wr ((wr ((wr ((wr (n1 + 1)) + 1)) + 1)) + 1)) + 1)) + 1)) + 1)) + 1)) + 1)), ((Int.tmod (wr ((wr ((wr ((wr ((wr ((wr ((wr ((wr ((wr ((wr (n1 + 1)) + 1)) + 1)) + 1)) + 1)) + 1)) + 1)) + 1)) + 1)) + 1)) 3) == 0)⟩ : Place), (⟨v26_3, (wr ((wr ((wr ((wr ((wr ((wr ((wr ((wr ((wr ((wr ((wr ((wr (n1 + 1)) + 1)) + 1)) + 1)) + 1)) + 1)) + 1)) + 1)) + 1)) + 1)) + 1)) + 1))⟩ : Move)⟩ : Hand), ((Int.tmod (wr ((wr ((wr ((wr ((wr ((wr ((wr ((wr ((wr ((wr ((wr ((wr ((wr (n1 + 1)) + 1)) + 1)) + 1)) + 1)) + 1)) + 1)) + 1)) + 1)) + 1)) + 1)) + 1)) + 1)) 3) == 0), { y4_3.Other with Shape := { y4_3.Other.Shape with Thumb := (wr ((wr ((wr ((wr ((wr ((wr ((wr ((wr ((wr ((wr ((wr ((wr ((wr ((wr (n1 + 1)) + 1)) + 1)) + 1)) + 1)) + 1)) + 1)) + 1)) + 1)) + 1)) + 1)) + 1)) + 1)) + 1)), Index := (wr ((wr ((wr ((wr ((wr ((wr ((wr ((wr ((wr ((wr ((wr ((wr ((wr ((wr ((wr (n1 + 1)) + 1)) + 1)) + 1)) + 1)) + 1)) + 1)) + 1)) + 1)) + 1)) + 1)) + 1)) + 1)) + 1)) + 1)), Middle := (wr ((wr ((wr ((wr ((wr ((wr ((wr ((wr ((wr ((wr ((wr ((wr ((wr ((wr ((wr ((wr (n1 + 1)) + 1)) + 1)) + 1)) + 1)) + 1)) + 1)) + 1)) + 1)) + 1)) + 1)) + 1)) + 1)) + 1)) + 1)) + 1)) } }⟩ : Sign)) (b := (⟨(⟨(⟨n1, (wr (n1 + 1)), (wr ((wr (n1 + 1)) + 1)), (wr ((wr ((wr (n1 + 1)) + 1)) + 1)), (wr ((wr ((wr ((wr (n1 + 1)) + 1)) + 1)) + 1)), ((Int.tmod (wr ((wr ((wr ((wr ((wr (n1 + 1)) + 1)) + 1)) + 1)) + 1)) 3) == 0)⟩ : Shape), (⟨(wr ((wr ((wr ((wr ((wr ((wr (n1 + 1)) + 1)) + 1)) + 1)) + 1)) + 1)), (wr ((wr ((wr ((wr ((wr ((wr ((wr (n1 + 1)) + 1)) + 1)) + 1)) + 1)) + 1)) + 1))⟩ : Orient), (⟨(wr ((wr ((wr ((wr ((wr ((wr ((wr ((wr (n1 + 1)) + 1)) + 1)) + 1)) + 1)) + 1)) + 1)) + 1)), (wr ((wr ((wr ((wr ((wr ((wr ((wr ((wr ((wr (n1 + 1)) + 1)) + 1)) + 1)) + 1)) + 1)) + 1)) + 1)) + 1)), ((Int.tmod (wr ((wr ((wr ((wr ((wr ((wr ((wr ((wr ((wr ((wr (n1 + 1)) + 1)) + 1)) + 1)) + 1)) + 1)) + 1)) + 1)) + 1)) + 1)) 3) == 0)⟩ : Place), (⟨v26_3, (wr ((wr ((wr ((wr ((wr ((wr ((wr ((wr ((wr ((wr ((wr ((wr (n1 + 1)) + 1)) + 1)) + 1)) + 1)) + 1)) + 1)) + 1)) + 1)) + 1)) + 1)) + 1))⟩ : Move)⟩ : Hand), ((Int.tmod (wr ((wr ((wr ((wr ((wr ((wr ((wr ((wr ((wr ((wr ((wr ((wr ((wr (n1 + 1)) + 1)) + 1)) + 1)) + 1)) + 1)) + 1)) + 1)) + 1)) + 1)) + 1)) + 1)) + 1)) 3) == 0), { y4_3.Other with Shape := (⟨(wr ((wr ((wr ((wr ((wr ((wr ((wr ((wr ((wr ((wr ((wr ((wr ((wr ((wr (n1 + 1)) + 1)) + 1)) + 1)) + 1)) + 1)) + 1)) + 1)) + 1)) + 1)) + 1)) + 1)) + 1)) + 1)), (wr ((wr ((wr ((wr ((wr ((wr ((wr ((wr ((wr ((wr ((wr ((wr ((wr ((wr ((wr (n1 + 1)) + 1)) + 1)) + 1)) + 1)) + 1)) + 1)) + 1)) + 1)) + 1)) + 1)) + 1)) + 1)) + 1)) + 1)), (wr ((wr ((wr ((wr ((wr ((wr ((wr ((wr ((wr ((wr ((wr ((wr ((wr ((wr ((wr ((wr (n1 + 1)) + 1)) + 1)) + 1)) + 1)) + 1)) + 1)) + 1)) + 1)) + 1)) + 1)) + 1)) + 1)) + 1)) + 1)) + 1)), (wr ((wr ((wr ((wr ((wr ((wr ((wr ((wr ((wr ((wr ((wr ((wr ((wr ((wr ((wr ((wr ((wr (n1 + 1)) + 1)) + 1)) + 1)) + 1)) + 1)) + 1)) + 1)) + 1)) + 1)) + 1)) + 1)) + 1)) + 1)) + 1)) + 1)) + 1)), y4_3.Other.Shape.Little, y4_3.Other.Shape.Spread⟩ : Shape) }⟩ : Sign)) 0 17 ([.int .i64 (wr ((wr ((wr ((wr ((wr ((wr ((wr ((wr ((wr ((wr ((wr ((wr ((wr ((wr ((wr ((wr ((wr (n1 + 1)) + 1)) + 1)) + 1)) + 1)) + 1)) + 1)) + 1)) + 1)) + 1)) + 1)) + 1)) + 1)) + 1)) + 1)) + 1)) + 1))]) hy4_3 (by kernel_rfl) ?_)
      refine rend ?_
      refine c_seq ?_
      refine r_start ?_
      refine p 3 ?_
      refine rend ?_
      refine c_seq ?_
      refine r_start ?_
      refine p 3 ?_
      refine xq rfl (y_idxW (e := nSign) (el := 46) 0 (getI_set hy4_3)) ?_
      refine p 3 ?_
      refine xx rfl (e_stW2 (e := nSign) (a := (⟨(⟨(⟨n1, (wr (n1 + 1)), (wr ((wr (n1 + 1)) + 1)), (wr ((wr ((wr (n1 + 1)) + 1)) + 1)), (wr ((wr ((wr ((wr (n1 + 1)) + 1)) + 1)) + 1)), ((Int.tmod (wr ((wr ((wr ((wr ((wr (n1 + 1)) + 1)) + 1)) + 1)) + 1)) 3) == 0)⟩ : Shape), (⟨(wr ((wr ((wr ((wr ((wr ((wr (n1 + 1)) + 1)) + 1)) + 1)) + 1)) + 1)), (wr ((wr ((wr ((wr ((wr ((wr ((wr (n1 + 1)) + 1)) + 1)) + 1)) + 1)) + 1)) + 1))⟩ : Orient), (⟨(wr ((wr ((wr ((wr ((wr ((wr ((wr ((wr (n1 + 1)) + 1)) + 1)) + 1)) + 1)) + 1)) + 1)) + 1)), (wr ((wr ((wr ((wr ((wr ((wr ((wr ((wr ((wr (n1 + 1)) + 1)) + 1)) + 1)) + 1)) + 1)) + 1)) + 1)) + 1)), ((Int.tmod (wr ((wr ((wr ((wr ((wr ((wr ((wr ((wr ((wr ((wr (n1 + 1)) + 1)) + 1)) + 1)) + 1)) + 1)) + 1)) + 1)) + 1)) + 1)) 3) == 0)⟩ : Place), (⟨v26_3, (wr ((wr ((wr ((wr ((wr ((wr ((wr ((wr ((wr ((wr ((wr ((wr (n1 + 1)) + 1)) + 1)) + 1)) + 1)) + 1)) + 1)) + 1)) + 1)) + 1)) + 1)) + 1))⟩ : Move)⟩ : Hand), ((Int.tmod (wr ((wr ((wr ((wr ((wr ((wr ((wr ((wr ((wr ((wr ((wr ((wr ((wr (n1 + 1)) + 1)) + 1)) + 1)) + 1)) + 1)) + 1)) + 1)) + 1)) + 1)) + 1)) + 1)) + 1)) 3) == 0), { y4_3.Other with Shape := (⟨(wr ((wr ((wr ((wr ((wr ((wr ((wr ((wr ((wr ((wr ((wr ((wr ((wr ((wr (n1 + 1)) + 1)) + 1)) + 1)) + 1)) + 1)) + 1)) + 1)) + 1)) + 1)) + 1)) + 1)) + 1)) + 1)), (wr ((wr ((wr ((wr ((wr ((wr ((wr ((wr ((wr ((wr ((wr ((wr ((wr ((wr ((wr (n1 + 1)) + 1)) + 1)) + 1)) + 1)) + 1)) + 1)) + 1)) + 1)) + 1)) + 1)) + 1)) + 1)) + 1)) + 1)), (wr ((wr ((wr ((wr ((wr ((wr ((wr ((wr ((wr ((wr ((wr ((wr ((wr ((wr ((wr ((wr (n1 + 1)) + 1)) + 1)) + 1)) + 1)) + 1)) + 1)) + 1)) + 1)) + 1)) + 1)) + 1)) + 1)) + 1)) + 1)) + 1)), (wr ((wr ((wr ((wr ((wr ((wr ((wr ((wr ((wr ((wr ((wr ((wr ((wr ((wr ((wr ((wr ((wr (n1 + 1)) + 1)) + 1)) + 1)) + 1)) + 1)) + 1)) + 1)) + 1)) + 1)) + 1)) + 1)) + 1)) + 1)) + 1)) + 1)) + 1)), y4_3.Other.Shape.Little, y4_3.Other.Shape.Spread⟩ : Shape) }⟩ : Sign)) (b := (⟨(⟨(⟨n1, (wr (n1 + 1)), (wr ((wr (n1 + 1)) + 1)), (wr ((wr ((wr (n1 + 1)) + 1)) + 1)), (wr ((wr ((wr ((wr (n1 + 1)) + 1)) + 1)) + 1)), ((Int.tmod (wr ((wr ((wr ((wr ((wr (n1 + 1)) + 1)) + 1)) + 1)) + 1)) 3) == 0)⟩ : Shape), (⟨(wr ((wr ((wr ((wr ((wr ((wr (n1 + 1)) + 1)) + 1)) + 1)) + 1)) + 1)), (wr ((wr ((wr ((wr ((wr ((wr ((wr (n1 + 1)) + 1)) + 1)) + 1)) + 1)) + 1)) + 1))⟩ : Orient), (⟨(wr ((wr ((wr ((wr ((wr ((wr ((wr ((wr (n1 + 1)) + 1)) + 1)) + 1)) + 1)) + 1)) + 1)) + 1)), (wr ((wr ((wr ((wr ((wr ((wr ((wr ((wr ((wr (n1 + 1)) + 1)) + 1)) + 1)) + 1)) + 1)) + 1)) + 1)) + 1)), ((Int.tmod (wr ((wr ((wr ((wr ((wr ((wr ((wr ((wr ((wr ((wr (n1 + 1)) + 1)) + 1)) + 1)) + 1)) + 1)) + 1)) + 1)) + 1)) + 1)) 3) == 0)⟩ : Place), (⟨v26_3, (wr ((wr ((wr ((wr ((wr ((wr ((wr ((wr ((wr ((wr ((wr ((wr (n1 + 1)) + 1)) + 1)) + 1)) + 1)) + 1)) + 1)) + 1)) + 1)) + 1)) + 1)) + 1))⟩ : Move)⟩ : Hand), ((Int.tmod (wr ((wr ((wr ((wr ((wr ((wr ((wr ((wr ((wr ((wr ((wr ((wr ((wr (n1 + 1)) + 1)) + 1)) + 1)) + 1)) + 1)) + 1)) + 1)) + 1)) + 1)) + 1)) + 1)) + 1)) 3) == 0), { y4_3.Other with Shape := (⟨(wr ((wr ((wr ((wr ((wr ((wr ((wr ((wr ((wr ((wr ((wr ((wr ((wr ((wr (n1 + 1)) + 1)) + 1)) + 1)) + 1)) + 1)) + 1)) + 1)) + 1)) + 1)) + 1)) + 1)) + 1)) + 1)), (wr ((wr ((wr ((wr ((wr ((wr ((wr ((wr ((wr ((wr ((wr ((wr ((wr ((wr ((wr (n1 + 1)) + 1)) + 1)) + 1)) + 1)) + 1)) + 1)) + 1)) + 1)) + 1)) + 1)) + 1)) + 1)) + 1)) + 1)), (wr ((wr ((wr ((wr ((wr ((wr ((wr ((wr ((wr ((wr ((wr ((wr ((wr ((wr ((wr ((wr (n1 + 1)) + 1)) + 1)) + 1)) + 1)) + 1)) + 1)) + 1)) + 1)) + 1)) + 1)) + 1)) + 1)) + 1)) + 1)) + 1)), (wr ((wr ((wr ((wr ((wr ((wr ((wr ((wr ((wr ((wr ((wr ((wr ((wr ((wr ((wr ((wr ((wr (n1 + 1)) + 1)) + 1)) + 1)) + 1)) + 1)) + 1)) + 1)) + 1)) + 1)) + 1)) + 1)) + 1)) + 1)) + 1)) + 1)) + 1)), (wr ((wr ((wr ((wr ((wr ((wr ((wr ((wr ((wr ((wr ((wr ((wr ((wr ((wr ((wr ((wr ((wr ((wr (n1 + 1)) + 1)) + 1)) + 1)) + 1)) + 1)) + 1)) + 1)) + 1)) + 1)) + 1)) + 1)) + 1)) + 1)) + 1)) + 1)) + 1)) + 1)), y4_3.Other.Shape.Spread⟩ : Shape) }⟩ : Sign)) 0 18 ([.int .i64 (wr ((wr ((wr ((wr ((wr ((wr ((wr ((wr ((wr ((wr ((wr ((wr ((wr ((wr ((wr ((wr ((wr ((wr (n1 + 1)) + 1)) + 1)) + 1)) + 1)) + 1)) + 1)) + 1)) + 1)) + 1)) + 1)) + 1)) + 1)) + 1)) + 1)) + 1)) + 1)) + 1))]) hy4_3 (by kernel_rfl) ?_)
      refine rend ?_
      refine c_seq ?_
      refine r_start ?_
      refine p 3 ?_
      refine rend ?_
      refine c_seq ?_
      refine r_start ?_
      refine p 5 ?_
      refine xq rfl (y_idxW (e := nSign) (el := 46) 0 (getI_set hy4_3)) ?_
      refine p 3 ?_
      refine xx rfl (e_stW2 (e := nSign) (a := (⟨(⟨(⟨n1, (wr (n1 + 1)), (wr ((wr (n1 + 1)) + 1)), (wr ((wr ((wr (n1 + 1)) + 1)) + 1)), (wr ((wr ((wr ((wr (n1 + 1)) + 1)) + 1)) + 1)), ((Int.tmod (wr ((wr ((wr ((wr ((wr (n1 + 1)) + 1)) + 1)) + 1)) + 1)) 3) == 0)⟩ : Shape), (⟨(wr ((wr ((wr ((wr ((wr ((wr (n1 + 1)) + 1)) + 1)) + 1)) + 1)) + 1)), (wr ((wr ((wr ((wr ((wr ((wr ((wr (n1 + 1)) + 1)) + 1)) + 1)) + 1)) + 1)) + 1))⟩ : Orient), (⟨(wr ((wr ((wr ((wr ((wr ((wr ((wr ((wr (n1 + 1)) + 1)) + 1)) + 1)) + 1)) + 1)) + 1)) + 1)), (wr ((wr ((wr ((wr ((wr ((wr ((wr ((wr ((wr (n1 + 1)) + 1)) + 1)) + 1)) + 1)) + 1)) + 1)) + 1)) + 1)), ((Int.tmod (wr ((wr ((wr ((wr ((wr ((wr ((wr ((wr ((wr ((wr (n1 + 1)) + 1)) + 1)) + 1)) + 1)) + 1)) + 1)) + 1)) + 1)) + 1)) 3) == 0)⟩ : Place), (⟨v26_3, (wr ((wr ((wr ((wr ((wr ((wr ((wr ((wr ((wr ((wr ((wr ((wr (n1 + 1)) + 1)) + 1)) + 1)) + 1)) + 1)) + 1)) + 1)) + 1)) + 1)) + 1)) + 1))⟩ : Move)⟩ : Hand), ((Int.tmod (wr ((wr ((wr ((wr ((wr ((wr ((wr ((wr ((wr ((wr ((wr ((wr ((wr (n1 + 1)) + 1)) + 1)) + 1)) + 1)) + 1)) + 1)) + 1)) + 1)) + 1)) + 1)) + 1)) + 1)) 3) == 0), { y4_3.Other with Shape := (⟨(wr ((wr ((wr ((wr ((wr ((wr ((wr ((wr ((wr ((wr ((wr ((wr ((wr ((wr (n1 + 1)) + 1)) + 1)) + 1)) + 1)) + 1)) + 1)) + 1)) + 1)) + 1)) + 1)) + 1)) + 1)) + 1)), (wr ((wr ((wr ((wr ((wr ((wr ((wr ((wr ((wr ((wr ((wr ((wr ((wr ((wr ((wr (n1 + 1)) + 1)) + 1)) + 1)) + 1)) + 1)) + 1)) + 1)) + 1)) + 1)) + 1)) + 1)) + 1)) + 1)) + 1)), (wr ((wr ((wr ((wr ((wr ((wr ((wr ((wr ((wr ((wr ((wr ((wr ((wr ((wr ((wr ((wr (n1 + 1)) + 1)) + 1)) + 1)) + 1)) + 1)) + 1)) + 1)) + 1)) + 1)) + 1)) + 1)) + 1)) + 1)) + 1)) + 1)), (wr ((wr ((wr ((wr ((wr ((wr ((wr ((wr ((wr ((wr ((wr ((wr ((wr ((wr ((wr ((wr ((wr (n1 + 1)) + 1)) + 1)) + 1)) + 1)) + 1)) + 1)) + 1)) + 1)) + 1)) + 1)) + 1)) + 1)) + 1)) + 1)) + 1)) + 1)), (wr ((wr ((wr ((wr ((wr ((wr ((wr ((wr ((wr ((wr ((wr ((wr ((wr ((wr ((wr ((wr ((wr ((wr (n1 + 1)) + 1)) + 1)) + 1)) + 1)) + 1)) + 1)) + 1)) + 1)) + 1)) + 1)) + 1)) + 1)) + 1)) + 1)) + 1)) + 1)) + 1)), y4_3.Other.Shape.Spread⟩ : Shape) }⟩ : Sign)) (b := (⟨(⟨(⟨n1, (wr (n1 + 1)), (wr ((wr (n1 + 1)) + 1)), (wr ((wr ((wr (n1 + 1)) + 1)) + 1)), (wr ((wr ((wr ((wr (n1 + 1)) + 1)) + 1)) + 1)), ((Int.tmod (wr ((wr ((wr ((wr ((wr (n1 + 1)) + 1)) + 1)) + 1)) + 1)) 3) == 0)⟩ : Shape), (⟨(wr ((wr ((wr ((wr ((wr ((wr (n1 + 1)) + 1)) + 1)) + 1)) + 1)) + 1)), (wr ((wr ((wr ((wr ((wr ((wr ((wr (n1 + 1)) + 1)) + 1)) + 1)) + 1)) + 1)) + 1))⟩ : Orient), (⟨(wr ((wr ((wr ((wr ((wr ((wr ((wr ((wr (n1 + 1)) + 1)) + 1)) + 1)) + 1)) + 1)) + 1)) + 1)), (wr ((wr ((wr ((wr ((wr ((wr ((wr ((wr ((wr (n1 + 1)) + 1)) + 1)) + 1)) + 1)) + 1)) + 1)) + 1)) + 1)), ((Int.tmod (wr ((wr ((wr ((wr ((wr ((wr ((wr ((wr ((wr ((wr (n1 + 1)) + 1)) + 1)) + 1)) + 1)) + 1)) + 1)) + 1)) + 1)) + 1)) 3) == 0)⟩ : Place), (⟨v26_3, (wr ((wr ((wr ((wr ((wr ((wr ((wr ((wr ((wr ((wr ((wr ((wr (n1 + 1)) + 1)) + 1)) + 1)) + 1)) + 1)) + 1)) + 1)) + 1)) + 1)) + 1)) + 1))⟩ : Move)⟩ : Hand), ((Int.tmod (wr ((wr ((wr ((wr ((wr ((wr ((wr ((wr ((wr ((wr ((wr ((wr ((wr (n1 + 1)) + 1)) + 1)) + 1)) + 1)) + 1)) + 1)) + 1)) + 1)) + 1)) + 1)) + 1)) + 1)) 3) == 0), { y4_3.Other with Shape := (⟨(wr ((wr ((wr ((wr ((wr ((wr ((wr ((wr ((wr ((wr ((wr ((wr ((wr ((wr (n1 + 1)) + 1)) + 1)) + 1)) + 1)) + 1)) + 1)) + 1)) + 1)) + 1)) + 1)) + 1)) + 1)) + 1)), (wr ((wr ((wr ((wr ((wr ((wr ((wr ((wr ((wr ((wr ((wr ((wr ((wr ((wr ((wr (n1 + 1)) + 1)) + 1)) + 1)) + 1)) + 1)) + 1)) + 1)) + 1)) + 1)) + 1)) + 1)) + 1)) + 1)) + 1)), (wr ((wr ((wr ((wr ((wr ((wr ((wr ((wr ((wr ((wr ((wr ((wr ((wr ((wr ((wr ((wr (n1 + 1)) + 1)) + 1)) + 1)) + 1)) + 1)) + 1)) + 1)) + 1)) + 1)) + 1)) + 1)) + 1)) + 1)) + 1)) + 1)), (wr ((wr ((wr ((wr ((wr ((wr ((wr ((wr ((wr ((wr ((wr ((wr ((wr ((wr ((wr ((wr ((wr (n1 + 1)) + 1)) + 1)) + 1)) + 1)) + 1)) + 1)) + 1)) + 1)) + 1)) + 1)) + 1)) + 1)) + 1)) + 1)) + 1)) + 1)), (wr ((wr ((wr ((wr ((wr ((wr ((wr ((wr ((wr ((wr ((wr ((wr ((wr ((wr ((wr ((wr ((wr ((wr (n1 + 1)) + 1)) + 1)) + 1)) + 1)) + 1)) + 1)) + 1)) + 1)) + 1)) + 1)) + 1)) + 1)) + 1)) + 1)) + 1)) + 1)) + 1)), ((Int.tmod (wr ((wr ((wr ((wr ((wr ((wr ((wr ((wr ((wr ((wr ((wr ((wr ((wr ((wr ((wr ((wr ((wr ((wr ((wr (n1 + 1)) + 1)) + 1)) + 1)) + 1)) + 1)) + 1)) + 1)) + 1)) + 1)) + 1)) + 1)) + 1)) + 1)) + 1)) + 1)) + 1)) + 1)) + 1)) 3) == 0)⟩ : Shape) }⟩ : Sign)) 0 19 ([.bool ((Int.tmod (wr ((wr ((wr ((wr ((wr ((wr ((wr ((wr ((wr ((wr ((wr ((wr ((wr ((wr ((wr ((wr ((wr ((wr ((wr (n1 + 1)) + 1)) + 1)) + 1)) + 1)) + 1)) + 1)) + 1)) + 1)) + 1)) + 1)) + 1)) + 1)) + 1)) + 1)) + 1)) + 1)) + 1)) + 1)) 3) == 0)]) hy4_3 (by kernel_rfl) ?_)
      refine rend ?_
      refine c_seq ?_
      refine r_start ?_
      refine p 3 ?_
      refine rend ?_
      refine c_seq ?_
      refine r_start ?_
      refine p 3 ?_
      refine xq rfl (y_idxW (e := nSign) (el := 46) 0 (getI_set hy4_3)) ?_
      refine p 3 ?_
      refine xx rfl (e_stW2 (e := nSign) (a := (⟨(⟨(⟨n1, (wr (n1 + 1)), (wr ((wr (n1 + 1)) + 1)), (wr ((wr ((wr (n1 + 1)) + 1)) + 1)), (wr ((wr ((wr ((wr (n1 + 1)) + 1)) + 1)) + 1)), ((Int.tmod (wr ((wr ((wr ((wr ((wr (n1 + 1)) + 1)) + 1)) + 1)) + 1)) 3) == 0)⟩ : Shape), (⟨(wr ((wr ((wr ((wr ((wr ((wr (n1 + 1)) + 1)) + 1)) + 1)) + 1)) + 1)), (wr ((wr ((wr ((wr ((wr ((wr ((wr (n1 + 1)) + 1)) + 1)) + 1)) + 1)) + 1)) + 1))⟩ : Orient), (⟨(wr ((wr ((wr ((wr ((wr ((wr ((wr ((wr (n1 + 1)) + 1)) + 1)) + 1)) + 1)) + 1)) + 1)) + 1)), (wr ((wr ((wr ((wr ((wr ((wr ((wr ((wr ((wr (n1 + 1)) + 1)) + 1)) + 1)) + 1)) + 1)) + 1)) + 1)) + 1)), ((Int.tmod (wr ((wr ((wr ((wr ((wr ((wr ((wr ((wr ((wr ((wr (n1 + 1)) + 1)) + 1)) + 1)) + 1)) + 1)) + 1)) + 1)) + 1)) + 1)) 3) == 0)⟩ : Place), (⟨v26_3, (wr ((wr ((wr ((wr ((wr ((wr ((wr ((wr ((wr ((wr ((wr ((wr (n1 + 1)) + 1)) + 1)) + 1)) + 1)) + 1)) + 1)) + 1)) + 1)) + 1)) + 1)) + 1))⟩ : Move)⟩ : Hand), ((Int.tmod (wr ((wr ((wr ((wr ((wr ((wr ((wr ((wr ((wr ((wr ((wr ((wr ((wr (n1 + 1)) + 1)) + 1)) + 1)) + 1)) + 1)) + 1)) + 1)) + 1)) + 1)) + 1)) + 1)) + 1)) 3) == 0), { y4_3.Other with Shape := (⟨(wr ((wr ((wr ((wr ((wr ((wr ((wr ((wr ((wr ((wr ((wr ((wr ((wr ((wr (n1 + 1)) + 1)) + 1)) + 1)) + 1)) + 1)) + 1)) + 1)) + 1)) + 1)) + 1)) + 1)) + 1)) + 1)), (wr ((wr ((wr ((wr ((wr ((wr ((wr ((wr ((wr ((wr ((wr ((wr ((wr ((wr ((wr (n1 + 1)) + 1)) + 1)) + 1)) + 1)) + 1)) + 1)) + 1)) + 1)) + 1)) + 1)) + 1)) + 1)) + 1)) + 1)), (wr ((wr ((wr ((wr ((wr ((wr ((wr ((wr ((wr ((wr ((wr ((wr ((wr ((wr ((wr ((wr (n1 + 1)) + 1)) + 1)) + 1)) + 1)) + 1)) + 1)) + 1)) + 1)) + 1)) + 1)) + 1)) + 1)) + 1)) + 1)) + 1)), (wr ((wr ((wr ((wr ((wr ((wr ((wr ((wr ((wr ((wr ((wr ((wr ((wr ((wr ((wr ((wr ((wr (n1 + 1)) + 1)) + 1)) + 1)) + 1)) + 1)) + 1)) + 1)) + 1)) + 1)) + 1)) + 1)) + 1)) + 1)) + 1)) + 1)) + 1)), (wr ((wr ((wr ((wr ((wr ((wr ((wr ((wr ((wr ((wr ((wr ((wr ((wr ((wr ((wr ((wr ((wr ((wr (n1 + 1)) + 1)) + 1)) + 1)) + 1)) + 1)) + 1)) + 1)) + 1)) + 1)) + 1)) + 1)) + 1)) + 1)) + 1)) + 1)) + 1)) + 1)), ((Int.tmod (wr ((wr ((wr ((wr ((wr ((wr ((wr ((wr ((wr ((wr ((wr ((wr ((wr ((wr ((wr ((wr ((wr ((wr ((wr (n1 + 1)) + 1)) + 1)) + 1)) + 1)) + 1)) + 1)) + 1)) + 1)) + 1)) + 1)) + 1)) + 1)) + 1)) + 1)) + 1)) + 1)) + 1)) + 1)) 3) == 0)⟩ : Shape) }⟩ : Sign)) (b := (⟨(⟨(⟨n1, (wr (n1 + 1)), (wr ((wr (n1 + 1)) + 1)), (wr ((wr ((wr (n1 + 1)) + 1)) + 1)), (wr ((wr ((wr ((wr (n1 + 1)) + 1)) + 1)) + 1)), ((Int.tmod (wr ((wr ((wr ((wr ((wr (n1 + 1)) + 1)) + 1)) + 1)) + 1)) 3) == 0)⟩ : Shape), (⟨(wr ((wr ((wr ((wr ((wr ((wr (n1 + 1)) + 1)) + 1)) + 1)) + 1)) + 1)), (wr ((wr ((wr ((wr ((wr ((wr ((wr (n1 + 1)) + 1)) + 1)) + 1)) + 1)) + 1)) + 1))⟩ : Orient), (⟨(wr ((wr ((wr ((wr ((wr ((wr ((wr ((wr (n1 + 1)) + 1)) + 1)) + 1)) + 1)) + 1)) + 1)) + 1)), (wr ((wr ((wr ((wr ((wr ((wr ((wr ((wr ((wr (n1 + 1)) + 1)) + 1)) + 1)) + 1)) + 1)) + 1)) + 1)) + 1)), ((Int.tmod (wr ((wr ((wr ((wr ((wr ((wr ((wr ((wr ((wr ((wr (n1 + 1)) + 1)) + 1)) + 1)) + 1)) + 1)) + 1)) + 1)) + 1)) + 1)) 3) == 0)⟩ : Place), (⟨v26_3, (wr ((wr ((wr ((wr ((wr ((wr ((wr ((wr ((wr ((wr ((wr ((wr (n1 + 1)) + 1)) + 1)) + 1)) + 1)) + 1)) + 1)) + 1)) + 1)) + 1)) + 1)) + 1))⟩ : Move)⟩ : Hand), ((Int.tmod (wr ((wr ((wr ((wr ((wr ((wr ((wr ((wr ((wr ((wr ((wr ((wr ((wr (n1 + 1)) + 1)) + 1)) + 1)) + 1)) + 1)) + 1)) + 1)) + 1)) + 1)) + 1)) + 1)) + 1)) 3) == 0), { y4_3.Other with Shape := (⟨(wr ((wr ((wr ((wr ((wr ((wr ((wr ((wr ((wr ((wr ((wr ((wr ((wr ((wr (n1 + 1)) + 1)) + 1)) + 1)) + 1)) + 1)) + 1)) + 1)) + 1)) + 1)) + 1)) + 1)) + 1)) + 1)), (wr ((wr ((wr ((wr ((wr ((wr ((wr ((wr ((wr ((wr ((wr ((wr ((wr ((wr ((wr (n1 + 1)) + 1)) + 1)) + 1)) + 1)) + 1)) + 1)) + 1)) + 1)) + 1)) + 1)) + 1)) + 1)) + 1)) + 1)), (wr ((wr ((wr ((wr ((wr ((wr ((wr ((wr ((wr ((wr ((wr ((wr ((wr ((wr ((wr ((wr (n1 + 1)) + 1)) + 1)) + 1)) + 1)) + 1)) + 1)) + 1)) + 1)) + 1)) + 1)) + 1)) + 1)) + 1)) + 1)) + 1)), (wr ((wr ((wr ((wr ((wr ((wr ((wr ((wr ((wr ((wr ((wr ((wr ((wr ((wr ((wr ((wr ((wr (n1 + 1)) + 1)) + 1)) + 1)) + 1)) + 1)) + 1)) + 1)) + 1)) + 1)) + 1)) + 1)) + 1)) + 1)) + 1)) + 1)) + 1)), (wr ((wr ((wr ((wr ((wr ((wr ((wr ((wr ((wr ((wr ((wr ((wr ((wr ((wr ((wr ((wr ((wr ((wr (n1 + 1)) + 1)) + 1)) + 1)) + 1)) + 1)) + 1)) + 1)) + 1)) + 1)) + 1)) + 1)) + 1)) + 1)) + 1)) + 1)) + 1)) + 1)), ((Int.tmod (wr ((wr ((wr ((wr ((wr ((wr ((wr ((wr ((wr ((wr ((wr ((wr ((wr ((wr ((wr ((wr ((wr ((wr ((wr (n1 + 1)) + 1)) + 1)) + 1)) + 1)) + 1)) + 1)) + 1)) + 1)) + 1)) + 1)) + 1)) + 1)) + 1)) + 1)) + 1)) + 1)) + 1)) + 1)) 3) == 0)⟩ : Shape), Orient := { y4_3.Other.Orient with Palm := (wr ((wr ((wr ((wr ((wr ((wr ((wr ((wr ((wr ((wr ((wr ((wr ((wr ((wr ((wr ((wr ((wr ((wr ((wr ((wr (n1 + 1)) + 1)) + 1)) + 1)) + 1)) + 1)) + 1)) + 1)) + 1)) + 1)) + 1)) + 1)) + 1)) + 1)) + 1)) + 1)) + 1)) + 1)) + 1)) + 1)) } }⟩ : Sign)) 0 20 ([.int .i64 (wr ((wr ((wr ((wr ((wr ((wr ((wr ((wr ((wr ((wr ((wr ((wr ((wr ((wr ((wr ((wr ((wr ((wr ((wr ((wr (n1 + 1)) + 1)) + 1)) + 1)) + 1)) + 1)) + 1)) + 1)) + 1)) + 1)) + 1)) + 1)) + 1)) + 1)) + 1)) + 1)) + 1)) + 1)) + 1)) + 1))]) hy4_3 (by kernel_rfl) ?_)
      refine rend ?_
      refine c_seq ?_
      refine r_start ?_
      refine p 3 ?_
      refine rend ?_
      refine c_seq ?_
      refine r_start ?_
      refine p 3 ?_
      refine xq rfl (y_idxW (e := nSign) (el := 46) 0 (getI_set hy4_3)) ?_
      refine p 3 ?_
      refine xx rfl (e_stW2 (e := nSign) (a := (⟨(⟨(⟨n1, (wr (n1 + 1)), (wr ((wr (n1 + 1)) + 1)), (wr ((wr ((wr (n1 + 1)) + 1)) + 1)), (wr ((wr ((wr ((wr (n1 + 1)) + 1)) + 1)) + 1)), ((Int.tmod (wr ((wr ((wr ((wr ((wr (n1 + 1)) + 1)) + 1)) + 1)) + 1)) 3) == 0)⟩ : Shape), (⟨(wr ((wr ((wr ((wr ((wr ((wr (n1 + 1)) + 1)) + 1)) + 1)) + 1)) + 1)), (wr ((wr ((wr ((wr ((wr ((wr ((wr (n1 + 1)) + 1)) + 1)) + 1)) + 1)) + 1)) + 1))⟩ : Orient), (⟨(wr ((wr ((wr ((wr ((wr ((wr ((wr ((wr (n1 + 1)) + 1)) + 1)) + 1)) + 1)) + 1)) + 1)) + 1)), (wr ((wr ((wr ((wr ((wr ((wr ((wr ((wr ((wr (n1 + 1)) + 1)) + 1)) + 1)) + 1)) + 1)) + 1)) + 1)) + 1)), ((Int.tmod (wr ((wr ((wr ((wr ((wr ((wr ((wr ((wr ((wr ((wr (n1 + 1)) + 1)) + 1)) + 1)) + 1)) + 1)) + 1)) + 1)) + 1)) + 1)) 3) == 0)⟩ : Place), (⟨v26_3, (wr ((wr ((wr ((wr ((wr ((wr ((wr ((wr ((wr ((wr ((wr ((wr (n1 + 1)) + 1)) + 1)) + 1)) + 1)) + 1)) + 1)) + 1)) + 1)) + 1)) + 1)) + 1))⟩ : Move)⟩ : Hand), ((Int.tmod (wr ((wr ((wr ((wr ((wr ((wr ((wr ((wr ((wr ((wr ((wr ((wr ((wr (n1 + 1)) + 1)) + 1)) + 1)) + 1)) + 1)) + 1)) + 1)) + 1)) + 1)) + 1)) + 1)) + 1)) 3) == 0), { y4_3.Other with Shape := (⟨(wr ((wr ((wr ((wr ((wr ((wr ((wr ((wr ((wr ((wr ((wr ((wr ((wr ((wr (n1 + 1)) + 1)) + 1)) + 1)) + 1)) + 1)) + 1)) + 1)) + 1)) + 1)) + 1)) + 1)) + 1)) + 1)), (wr ((wr ((wr ((wr ((wr ((wr ((wr ((wr ((wr ((wr ((wr ((wr ((wr ((wr ((wr (n1 + 1)) + 1)) + 1)) + 1)) + 1)) + 1)) + 1)) + 1)) + 1)) + 1)) + 1)) + 1)) + 1)) + 1)) + 1)), (wr ((wr ((wr ((wr ((wr ((wr ((wr ((wr ((wr ((wr ((wr ((wr ((wr ((wr ((wr ((wr (n1 + 1)) + 1)) + 1)) + 1)) + 1)) + 1)) + 1)) + 1)) + 1)) + 1)) + 1)) + 1)) + 1)) + 1)) + 1)) + 1)), (wr ((wr ((wr ((wr ((wr ((wr ((wr ((wr ((wr ((wr ((wr ((wr ((wr ((wr ((wr ((wr ((wr (n1 + 1)) + 1)) + 1)) + 1)) + 1)) + 1)) + 1)) + 1)) + 1)) + 1)) + 1)) + 1)) + 1)) + 1)) + 1)) + 1)) + 1)), (wr ((wr ((wr ((wr ((wr ((wr ((wr ((wr ((wr ((wr ((wr ((wr ((wr ((wr ((wr ((wr ((wr ((wr (n1 + 1)) + 1)) + 1)) + 1)) + 1)) + 1)) + 1)) + 1)) + 1)) + 1)) + 1)) + 1)) + 1)) + 1)) + 1)) + 1)) + 1)) + 1)), ((Int.tmod (wr ((wr ((wr ((wr ((wr ((wr ((wr ((wr ((wr ((wr ((wr ((wr ((wr ((wr ((wr ((wr ((wr ((wr ((wr (n1 + 1)) + 1)) + 1)) + 1)) + 1)) + 1)) + 1)) + 1)) + 1)) + 1)) + 1)) + 1)) + 1)) + 1)) + 1)) + 1)) + 1)) + 1)) + 1)) 3) == 0)⟩ : Shape), Orient := { y4_3.Other.Orient with Palm := (wr ((wr ((wr ((wr ((wr ((wr ((wr ((wr ((wr ((wr ((wr ((wr ((wr ((wr ((wr ((wr ((wr ((wr ((wr ((wr (n1 + 1)) + 1)) + 1)) + 1)) + 1)) + 1)) + 1)) + 1)) + 1)) + 1)) + 1)) + 1)) + 1)) + 1)) + 1)) + 1)) + 1)) + 1)) + 1)) + 1)) } }⟩ : Sign)) (b := (⟨(⟨(⟨n1, (wr (n1 + 1)), (wr ((wr (n1 + 1)) + 1)), (wr ((wr ((wr (n1 + 1)) + 1)) + 1)), (wr ((wr ((wr ((wr (n1 + 1)) + 1)) + 1)) + 1)), ((Int.tmod (wr ((wr ((wr ((wr ((wr (n1 + 1)) + 1)) + 1)) + 1)) + 1)) 3) == 0)⟩ : Shape), (⟨(wr ((wr ((wr ((wr ((wr ((wr (n1 + 1)) + 1)) + 1)) + 1)) + 1)) + 1)), (wr ((wr ((wr ((wr ((wr ((wr ((wr (n1 + 1)) + 1)) + 1)) + 1)) + 1)) + 1)) + 1))⟩ : Orient), (⟨(wr ((wr ((wr ((wr ((wr ((wr ((wr ((wr (n1 + 1)) + 1)) + 1)) + 1)) + 1)) + 1)) + 1)) + 1)), (wr ((wr ((wr ((wr ((wr ((wr ((wr ((wr ((wr (n1 + 1)) + 1)) + 1)) + 1)) + 1)) + 1)) + 1)) + 1)) + 1)), ((Int.tmod (wr ((wr ((wr ((wr ((wr ((wr ((wr ((wr ((wr ((wr (n1 + 1)) + 1)) + 1)) + 1)) + 1)) + 1)) + 1)) + 1)) + 1)) + 1)) 3) == 0)⟩ : Place), (⟨v26_3, (wr ((wr ((wr ((wr ((wr ((wr ((wr ((wr ((wr ((wr ((wr ((wr (n1 + 1)) + 1)) + 1)) + 1)) + 1)) + 1)) + 1)) + 1)) + 1)) + 1)) + 1)) + 1))⟩ : Move)⟩ : Hand), ((Int.tmod (wr ((wr ((wr ((wr ((wr ((wr ((wr ((wr ((wr ((wr ((wr ((wr ((wr (n1 + 1)) + 1)) + 1)) + 1)) + 1)) + 1)) + 1)) + 1)) + 1)) + 1)) + 1)) + 1)) + 1)) 3) == 0), { y4_3.Other with Shape := (⟨(wr ((wr ((wr ((wr ((wr ((wr ((wr ((wr ((wr ((wr ((wr ((wr ((wr ((wr (n1 + 1)) + 1)) + 1)) + 1)) + 1)) + 1)) + 1)) + 1)) + 1)) + 1)) + 1)) + 1)) + 1)) + 1)), (wr ((wr ((wr ((wr ((wr ((wr ((wr ((wr ((wr ((wr ((wr ((wr ((wr ((wr ((wr (n1 + 1)) + 1)) + 1)) + 1)) + 1)) + 1)) + 1)) + 1)) + 1)) + 1)) + 1)) + 1)) + 1)) + 1)) + 1)), (wr ((wr ((wr ((wr ((wr ((wr ((wr ((wr ((wr ((wr ((wr ((wr ((wr ((wr ((wr ((wr (n1 + 1)) + 1)) + 1)) + 1)) + 1)) + 1)) + 1)) + 1)) + 1)) + 1)) + 1)) + 1)) + 1)) + 1)) + 1)) + 1)), (wr ((wr ((wr ((wr ((wr ((wr ((wr ((wr ((wr ((wr ((wr ((wr ((wr ((wr ((wr ((wr ((wr (n1 + 1)) + 1)) + 1)) + 1)) + 1)) + 1)) + 1)) + 1)) + 1)) + 1)) + 1)) + 1)) + 1)) + 1)) + 1)) + 1)) + 1)), (wr ((wr ((wr ((wr ((wr ((wr ((wr ((wr ((wr ((wr ((wr ((wr ((wr ((wr ((wr ((wr ((wr ((wr (n1 + 1)) + 1)) + 1)) + 1)) + 1)) + 1)) + 1)) + 1)) + 1)) + 1)) + 1)) + 1)) + 1)) + 1)) + 1)) + 1)) + 1)) + 1)), ((Int.tmod (wr ((wr ((wr ((wr ((wr ((wr ((wr ((wr ((wr ((wr ((wr ((wr ((wr ((wr ((wr ((wr ((wr ((wr ((wr (n1 + 1)) + 1)) + 1)) + 1)) + 1)) + 1)) + 1)) + 1)) + 1)) + 1)) + 1)) + 1)) + 1)) + 1)) + 1)) + 1)) + 1)) + 1)) + 1)) 3) == 0)⟩ : Shape), Orient := (⟨(wr ((wr ((wr ((wr ((wr ((wr ((wr ((wr ((wr ((wr ((wr ((wr ((wr ((wr ((wr ((wr ((wr ((wr ((wr ((wr (n1 + 1)) + 1)) + 1)) + 1)) + 1)) + 1)) + 1)) + 1)) + 1)) + 1)) + 1)) + 1)) + 1)) + 1)) + 1)) + 1)) + 1)) + 1)) + 1)) + 1)), (wr ((wr ((wr ((wr ((wr ((wr ((wr ((wr ((wr ((wr ((wr ((wr ((wr ((wr ((wr ((wr ((wr ((wr ((wr ((wr ((wr (n1 + 1)) + 1)) + 1)) + 1)) + 1)) + 1)) + 1)) + 1)) + 1)) + 1)) + 1)) + 1)) + 1)) + 1)) + 1)) + 1)) + 1)) + 1)) + 1)) + 1)) + 1))⟩ : Orient) }⟩ : Sign)) 0 21 ([.int .i64 (wr ((wr ((wr ((wr ((wr ((wr ((wr ((wr ((wr ((wr ((wr ((wr ((wr ((wr ((wr ((wr ((wr ((wr ((wr ((wr ((wr (n1 + 1)) + 1)) + 1)) + 1)) + 1)) + 1)) + 1)) + 1)) + 1)) + 1)) + 1)) + 1)) + 1)) + 1)) + 1)) + 1)) + 1)) + 1)) + 1)) + 1)) + 1))]) hy4_3 (by kernel_rfl) ?_)
      refine rend ?_
      refine c_seq ?_
      refine r_start ?_
      refine p 3 ?_
      refine rend ?_
      refine c_seq ?_
      refine r_start ?_
      refine p 3 ?_
      refine xq rfl (y_idxW (e := nSign) (el := 46) 0 (getI_set hy4_3)) ?_
      refine p 3 ?_
      refine xx rfl (e_stW2 (e := nSign) (a := (⟨(⟨(⟨n1, (wr (n1 + 1)), (wr ((wr (n1 + 1)) + 1)), (wr ((wr ((wr (n1 + 1)) + 1)) + 1)), (wr ((wr ((wr ((wr (n1 + 1)) + 1)) + 1)) + 1)), ((Int.tmod (wr ((wr ((wr ((wr ((wr (n1 + 1)) + 1)) + 1)) + 1)) + 1)) 3) == 0)⟩ : Shape), (⟨(wr ((wr ((wr ((wr ((wr ((wr (n1 + 1)) + 1)) + 1)) + 1)) + 1)) + 1)), (wr ((wr ((wr ((wr ((wr ((wr ((wr (n1 + 1)) + 1)) + 1)) + 1)) + 1)) + 1)) + 1))⟩ : Orient), (⟨(wr ((wr ((wr ((wr ((wr ((wr ((wr ((wr (n1 + 1)) + 1)) + 1)) + 1)) + 1)) + 1)) + 1)) + 1)), (wr ((wr ((wr ((wr ((wr ((wr ((wr ((wr ((wr (n1 + 1)) + 1)) + 1)) + 1)) + 1)) + 1)) + 1)) + 1)) + 1)), ((Int.tmod (wr ((wr ((wr ((wr ((wr ((wr ((wr ((wr ((wr ((wr (n1 + 1)) + 1)) + 1)) + 1)) + 1)) + 1)) + 1)) + 1)) + 1)) + 1)) 3) == 0)⟩ : Place), (⟨v26_3, (wr ((wr ((wr ((wr ((wr ((wr ((wr ((wr ((wr ((wr ((wr ((wr (n1 + 1)) + 1)) + 1)) + 1)) + 1)) + 1)) + 1)) + 1)) + 1)) + 1)) + 1)) + 1))⟩ : Move)⟩ : Hand), ((Int.tmod (wr ((wr ((wr ((wr ((wr ((wr ((wr ((wr ((wr ((wr ((wr ((wr ((wr (n1 + 1)) + 1)) + 1)) + 1)) + 1)) + 1)) + 1)) + 1)) + 1)) + 1)) + 1)) + 1)) + 1)) 3) == 0), { y4_3.Other with Shape := (⟨(wr ((wr ((wr ((wr ((wr ((wr ((wr ((wr ((wr ((wr ((wr ((wr ((wr ((wr (n1 + 1)) + 1)) + 1)) + 1)) + 1)) + 1)) + 1)) + 1)) + 1)) + 1)) + 1)) + 1)) + 1)) + 1)), (wr ((wr ((wr ((wr ((wr ((wr ((wr ((wr ((wr ((wr ((wr ((wr ((wr ((wr ((wr (n1 + 1)) + 1)) + 1)) + 1)) + 1)) + 1)) + 1)) + 1)) + 1)) + 1)) + 1)) + 1)) + 1)) + 1)) + 1)), (wr ((wr ((wr ((wr ((wr ((wr ((wr ((wr ((wr ((wr ((wr ((wr ((wr ((wr ((wr ((wr (n1 + 1)) + 1)) + 1)) + 1)) + 1)) + 1)) + 1)) + 1)) + 1)) + 1)) + 1)) + 1)) + 1)) + 1)) + 1)) + 1)), (wr ((wr ((wr ((wr ((wr ((wr ((wr ((wr ((wr ((wr ((wr ((wr ((wr ((wr ((wr ((wr ((wr (n1 + 1)) + 1)) + 1)) + 1)) + 1)) + 1)) + 1)) + 1)) + 1)) + 1)) + 1)) + 1)) + 1)) + 1)) + 1)) + 1)) + 1)), (wr ((wr ((wr ((wr ((wr ((wr ((wr ((wr ((wr ((wr ((wr ((wr ((wr ((wr ((wr ((wr ((wr ((wr (n1 + 1)) + 1)) + 1)) + 1)) + 1)) + 1)) + 1)) + 1)) + 1)) + 1)) + 1)) + 1)) + 1)) + 1)) + 1)) + 1)) + 1)) + 1)), ((Int.tmod (wr ((wr ((wr ((wr ((wr ((wr ((wr ((wr ((wr ((wr ((wr ((wr ((wr ((wr ((wr ((wr ((wr ((wr ((wr (n1 + 1)) + 1)) + 1)) + 1)) + 1)) + 1)) + 1)) + 1)) + 1)) + 1)) + 1)) + 1)) + 1)) + 1)) + 1)) + 1)) + 1)) + 1)) + 1)) 3) == 0)⟩ : Shape), Orient := (⟨(wr ((wr ((wr ((wr ((wr ((wr ((wr ((wr ((wr ((wr ((wr ((wr ((wr ((wr ((wr ((wr ((wr ((wr ((wr ((wr (n1 + 1)) + 1)) + 1)) + 1)) + 1)) + 1)) + 1)) + 1)) + 1)) + 1)) + 1)) + 1)) + 1)) + 1)) + 1)) + 1)) + 1)) + 1)) + 1)) + 1)), (wr ((wr ((wr ((wr ((wr ((wr ((wr ((wr ((wr ((wr ((wr ((wr ((wr ((wr ((wr ((wr ((wr ((wr ((wr ((wr ((wr (n1 + 1)) + 1)) + 1)) + 1)) + 1)) + 1)) + 1)) + 1)) + 1)) + 1)) + 1)) + 1)) + 1)) + 1)) + 1)) + 1)) + 1)) + 1)) + 1)) + 1)) + 1))⟩ : Orient) }⟩ : Sign)) (b := (⟨(⟨(⟨n1, (wr (n1 + 1)), (wr ((wr (n1 + 1)) + 1)), (wr ((wr ((wr (n1 + 1)) + 1)) + 1)), (wr ((wr ((wr ((wr (n1 + 1)) + 1)) + 1)) + 1)), ((Int.tmod (wr ((wr ((wr ((wr ((wr (n1 + 1)) + 1)) + 1)) + 1)) + 1)) 3) == 0)⟩ : Shape), (⟨(wr ((wr ((wr ((wr ((wr ((wr (n1 + 1)) + 1)) + 1)) + 1)) + 1)) + 1)), (wr ((wr ((wr ((wr ((wr ((wr ((wr (n1 + 1)) + 1)) + 1)) + 1)) + 1)) + 1)) + 1))⟩ : Orient), (⟨(wr ((wr ((wr ((wr ((wr ((wr ((wr ((wr (n1 + 1)) + 1)) + 1)) + 1)) + 1)) + 1)) + 1)) + 1)), (wr ((wr ((wr ((wr ((wr ((wr ((wr ((wr ((wr (n1 + 1)) + 1)) + 1)) + 1)) + 1)) + 1)) + 1)) + 1)) + 1)), ((Int.tmod (wr ((wr ((wr ((wr ((wr ((wr ((wr ((wr ((wr ((wr (n1 + 1)) + 1)) + 1)) + 1)) + 1)) + 1)) + 1)) + 1)) + 1)) + 1)) 3) == 0)⟩ : Place), (⟨v26_3, (wr ((wr ((wr ((wr ((wr ((wr ((wr ((wr ((wr ((wr ((wr ((wr (n1 + 1)) + 1)) + 1)) + 1)) + 1)) + 1)) + 1)) + 1)) + 1)) + 1)) + 1)) + 1))⟩ : Move)⟩ : Hand), ((Int.tmod (wr ((wr ((wr ((wr ((wr ((wr ((wr ((wr ((wr ((wr ((wr ((wr ((wr (n1 + 1)) + 1)) + 1)) + 1)) + 1)) + 1)) + 1)) + 1)) + 1)) + 1)) + 1)) + 1)) + 1)) 3) == 0), (⟨(⟨(wr ((wr ((wr ((wr ((wr ((wr ((wr ((wr ((wr ((wr ((wr ((wr ((wr ((wr (n1 + 1)) + 1)) + 1)) + 1)) + 1)) + 1)) + 1)) + 1)) + 1)) + 1)) + 1)) + 1)) + 1)) + 1)), (wr ((wr ((wr ((wr ((wr ((wr ((wr ((wr ((wr ((wr ((wr ((wr ((wr ((wr ((wr (n1 + 1)) + 1)) + 1)) + 1)) + 1)) + 1)) + 1)) + 1)) + 1)) + 1)) + 1)) + 1)) + 1)) + 1)) + 1)), (wr ((wr ((wr ((wr ((wr ((wr ((wr ((wr ((wr ((wr ((wr ((wr ((wr ((wr ((wr ((wr (n1 + 1)) + 1)) + 1)) + 1)) + 1)) + 1)) + 1)) + 1)) + 1)) + 1)) + 1)) + 1)) + 1)) + 1)) + 1)) + 1)), (wr ((wr ((wr ((wr ((wr ((wr ((wr ((wr ((wr ((wr ((wr ((wr ((wr ((wr ((wr ((wr ((wr (n1 + 1)) + 1)) + 1)) + 1)) + 1)) + 1)) + 1)) + 1)) + 1)) + 1)) + 1)) + 1)) + 1)) + 1)) + 1)) + 1)) + 1)), (wr ((wr ((wr ((wr ((wr ((wr ((wr ((wr ((wr ((wr ((wr ((wr ((wr ((wr ((wr ((wr ((wr ((wr (n1 + 1)) + 1)) + 1)) + 1)) + 1)) + 1)) + 1)) + 1)) + 1)) + 1)) + 1)) + 1)) + 1)) + 1)) + 1)) + 1)) + 1)) + 1)), ((Int.tmod (wr ((wr ((wr ((wr ((wr ((wr ((wr ((wr ((wr ((wr ((wr ((wr ((wr ((wr ((wr ((wr ((wr ((wr ((wr (n1 + 1)) + 1)) + 1)) + 1)) + 1)) + 1)) + 1)) + 1)) + 1)) + 1)) + 1)) + 1)) + 1)) + 1)) + 1)) + 1)) + 1)) + 1)) + 1)) 3) == 0)⟩ : Shape), (⟨(wr ((wr ((wr ((wr ((wr ((wr ((wr ((wr ((wr ((wr ((wr ((wr ((wr ((wr ((wr ((wr ((wr ((wr ((wr ((wr (n1 + 1)) + 1)) + 1)) + 1)) + 1)) + 1)) + 1)) + 1)) + 1)) + 1)) + 1)) + 1)) + 1)) + 1)) + 1)) + 1)) + 1)) + 1)) + 1)) + 1)), (wr ((wr ((wr ((wr ((wr ((wr ((wr ((wr ((wr ((wr ((wr ((wr ((wr ((wr ((wr ((wr ((wr ((wr ((wr ((wr ((wr (n1 + 1)) + 1)) + 1)) + 1)) + 1)) + 1)) + 1)) + 1)) + 1)) + 1)) + 1)) + 1)) + 1)) + 1)) + 1)) + 1)) + 1)) + 1)) + 1)) + 1)) + 1))⟩ : Orient), { y4_3.Other.Place with Region := (wr ((wr ((wr ((wr ((wr ((wr ((wr ((wr ((wr ((wr ((wr ((wr ((wr ((wr ((wr ((wr ((wr ((wr ((wr ((wr ((wr ((wr (n1 + 1)) + 1)) + 1)) + 1)) + 1)) + 1)) + 1)) + 1)) + 1)) + 1)) + 1)) + 1)) + 1)) + 1)) + 1)) + 1)) + 1)) + 1)) + 1)) + 1)) + 1)) + 1)) }, y4_3.Other.Move⟩ : Hand)⟩ : Sign)) 0 22 ([.int .i64 (wr ((wr ((wr ((wr ((wr ((wr ((wr ((wr ((wr ((wr ((wr ((wr ((wr ((wr ((wr ((wr ((wr ((wr ((wr ((wr ((wr ((wr (n1 + 1)) + 1)) + 1)) + 1)) + 1)) + 1)) + 1)) + 1)) + 1)) + 1)) + 1)) + 1)) + 1)) + 1)) + 1)) + 1)) + 1)) + 1)) + 1)) + 1)) + 1)) + 1))]) hy4_3 (by kernel_rfl) ?_)
      refine rend ?_
      refine frg (fun u => (.slice A0 (List.length a0) k0 :: .int .i64 (wr ((wr ((wr ((wr ((wr ((wr ((wr ((wr ((wr ((wr ((wr ((wr ((wr ((wr ((wr ((wr ((wr ((wr ((wr ((wr ((wr ((wr (n1 + 1)) + 1)) + 1)) + 1)) + 1)) + 1)) + 1)) + 1)) + 1)) + 1)) + 1)) + 1)) + 1)) + 1)) + 1)) + 1)) + 1)) + 1)) + 1)) + 1)) + 1)) + 1)) :: (jk u 2 3 (.int .i64 n2 :: (jk u 6 260 []))))) (by kernel_rfl) fun u => ?_
      refine keep 1 (its' := [argW nSign B0 46 A0 (List.length a0) k0 (List.set l3 (Int.toNat n2) (⟨(⟨(⟨n1, (wr (n1 + 1)), (wr ((wr (n1 + 1)) + 1)), (wr ((wr ((wr (n1 + 1)) + 1)) + 1)), (wr ((wr ((wr ((wr (n1 + 1)) + 1)) + 1)) + 1)), ((Int.tmod (wr ((wr ((wr ((wr ((wr (n1 + 1)) + 1)) + 1)) + 1)) + 1)) 3) == 0)⟩ : Shape), (⟨(wr ((wr ((wr ((wr ((wr ((wr (n1 + 1)) + 1)) + 1)) + 1)) + 1)) + 1)), (wr ((wr ((wr ((wr ((wr ((wr ((wr (n1 + 1)) + 1)) + 1)) + 1)) + 1)) + 1)) + 1))⟩ : Orient), (⟨(wr ((wr ((wr ((wr ((wr ((wr ((wr ((wr (n1 + 1)) + 1)) + 1)) + 1)) + 1)) + 1)) + 1)) + 1)), (wr ((wr ((wr ((wr ((wr ((wr ((wr ((wr ((wr (n1 + 1)) + 1)) + 1)) + 1)) + 1)) + 1)) + 1)) + 1)) + 1)), ((Int.tmod (wr ((wr ((wr ((wr ((wr ((wr ((wr ((wr ((wr ((wr (n1 + 1)) + 1)) + 1)) + 1)) + 1)) + 1)) + 1)) + 1)) + 1)) + 1)) 3) == 0)⟩ : Place), (⟨v26_3, (wr ((wr ((wr ((wr ((wr ((wr ((wr ((wr ((wr ((wr ((wr ((wr (n1 + 1)) + 1)) + 1)) + 1)) + 1)) + 1)) + 1)) + 1)) + 1)) + 1)) + 1)) + 1))⟩ : Move)⟩ : Hand), ((Int.tmod (wr ((wr ((wr ((wr ((wr ((wr ((wr ((wr ((wr ((wr ((wr ((wr ((wr (n1 + 1)) + 1)) + 1)) + 1)) + 1)) + 1)) + 1)) + 1)) + 1)) + 1)) + 1)) + 1)) + 1)) 3) == 0), (⟨(⟨(wr ((wr ((wr ((wr ((wr ((wr ((wr ((wr ((wr ((wr ((wr ((wr ((wr ((wr (n1 + 1)) + 1)) + 1)) + 1)) + 1)) + 1)) + 1)) + 1)) + 1)) + 1)) + 1)) + 1)) + 1)) + 1)), (wr ((wr ((wr ((wr ((wr ((wr ((wr ((wr ((wr ((wr ((wr ((wr ((wr ((wr ((wr (n1 + 1)) + 1)) + 1)) + 1)) + 1)) + 1)) + 1)) + 1)) + 1)) + 1)) + 1)) + 1)) + 1)) + 1)) + 1)), (wr ((wr ((wr ((wr ((wr ((wr ((wr ((wr ((wr ((wr ((wr ((wr ((wr ((wr ((wr ((wr (n1 + 1)) + 1)) + 1)) + 1)) + 1)) + 1)) + 1)) + 1)) + 1)) + 1)) + 1)) + 1)) + 1)) + 1)) + 1)) + 1)), (wr ((wr ((wr ((wr ((wr ((wr ((wr ((wr ((wr ((wr ((wr ((wr ((wr ((wr ((wr ((wr ((wr (n1 + 1)) + 1)) + 1)) + 1)) + 1)) + 1)) + 1)) + 1)) + 1)) + 1)) + 1)) + 1)) + 1)) + 1)) + 1)) + 1)) + 1)), (wr ((wr ((wr ((wr ((wr ((wr ((wr ((wr ((wr ((wr ((wr ((wr ((wr ((wr ((wr ((wr ((wr ((wr (n1 + 1)) + 1)) + 1)) + 1)) + 1)) + 1)) + 1)) + 1)) + 1)) + 1)) + 1)) + 1)) + 1)) + 1)) + 1)) + 1)) + 1)) + 1)), ((Int.tmod (wr ((wr ((wr ((wr ((wr ((wr ((wr ((wr ((wr ((wr ((wr ((wr ((wr ((wr ((wr ((wr ((wr ((wr ((wr (n1 + 1)) + 1)) + 1)) + 1)) + 1)) + 1)) + 1)) + 1)) + 1)) + 1)) + 1)) + 1)) + 1)) + 1)) + 1)) + 1)) + 1)) + 1)) + 1)) 3) == 0)⟩ : Shape), (⟨(wr ((wr ((wr ((wr ((wr ((wr ((wr ((wr ((wr ((wr ((wr ((wr ((wr ((wr ((wr ((wr ((wr ((wr ((wr ((wr (n1 + 1)) + 1)) + 1)) + 1)) + 1)) + 1)) + 1)) + 1)) + 1)) + 1)) + 1)) + 1)) + 1)) + 1)) + 1)) + 1)) + 1)) + 1)) + 1)) + 1)), (wr ((wr ((wr ((wr ((wr ((wr ((wr ((wr ((wr ((wr ((wr ((wr ((wr ((wr ((wr ((wr ((wr ((wr ((wr ((wr ((wr (n1 + 1)) + 1)) + 1)) + 1)) + 1)) + 1)) + 1)) + 1)) + 1)) + 1)) + 1)) + 1)) + 1)) + 1)) + 1)) + 1)) + 1)) + 1)) + 1)) + 1)) + 1))⟩ : Orient), { y4_3.Other.Place with Region := (wr ((wr ((wr ((wr ((wr ((wr ((wr ((wr ((wr ((wr ((wr ((wr ((wr ((wr ((wr ((wr ((wr ((wr ((wr ((wr ((wr ((wr (n1 + 1)) + 1)) + 1)) + 1)) + 1)) + 1)) + 1)) + 1)) + 1)) + 1)) + 1)) + 1)) + 1)) + 1)) + 1)) + 1)) + 1)) + 1)) + 1)) + 1)) + 1)) + 1)) }, y4_3.Other.Move⟩ : Hand)⟩ : Sign))]) (by kernel_rfl) ?_
      refine c_seq ?_
      refine r_start ?_
      refine p 3 ?_
      refine rend ?_
      refine c_seq ?_
      refine r_start ?_
      refine p 3 ?_
      refine xq rfl (y_idxW (e := nSign) (el := 46) 0 (getI_set hy4_3)) ?_
      refine p 3 ?_
      refine xx rfl (e_stW2 (e := nSign) (a := (⟨(⟨(⟨n1, (wr (n1 + 1)), (wr ((wr (n1 + 1)) + 1)), (wr ((wr ((wr (n1 + 1)) + 1)) + 1)), (wr ((wr ((wr ((wr (n1 + 1)) + 1)) + 1)) + 1)), ((Int.tmod (wr ((wr ((wr ((wr ((wr (n1 + 1)) + 1)) + 1)) + 1)) + 1)) 3) == 0)⟩ : Shape), (⟨(wr ((wr ((wr ((wr ((wr ((wr (n1 + 1)) + 1)) + 1)) + 1)) + 1)) + 1)), (wr ((wr ((wr ((wr ((wr ((wr ((wr (n1 + 1)) + 1)) + 1)) + 1)) + 1)) + 1)) + 1))⟩ : Orient), (⟨(wr ((wr ((wr ((wr ((wr ((wr ((wr ((wr (n1 + 1)) + 1)) + 1)) + 1)) + 1)) + 1)) + 1)) + 1)), (wr ((wr ((wr ((wr ((wr ((wr ((wr ((wr ((wr (n1 + 1)) + 1)) + 1)) + 1)) + 1)) + 1)) + 1)) + 1)) + 1)), ((Int.tmod (wr ((wr ((wr ((wr ((wr ((wr ((wr ((wr ((wr ((wr (n1 + 1)) + 1)) + 1)) + 1)) + 1)) + 1)) + 1)) + 1)) + 1)) + 1)) 3) == 0)⟩ : Place), (⟨v26_3, (wr ((wr ((wr ((wr ((wr ((wr ((wr ((wr ((wr ((wr ((wr ((wr (n1 + 1)) + 1)) + 1)) + 1)) + 1)) + 1)) + 1)) + 1)) + 1)) + 1)) + 1)) + 1))⟩ : Move)⟩ : Hand), ((Int.tmod (wr ((wr ((wr ((wr ((wr ((wr ((wr ((wr ((wr ((wr ((wr ((wr ((wr (n1 + 1)) + 1)) + 1)) + 1)) + 1)) + 1)) + 1)) + 1)) + 1)) + 1)) + 1)) + 1)) + 1)) 3) == 0), (⟨(⟨(wr ((wr ((wr ((wr ((wr ((wr ((wr ((wr ((wr ((wr ((wr ((wr ((wr ((wr (n1 + 1)) + 1)) + 1)) + 1)) + 1)) + 1)) + 1)) + 1)) + 1)) + 1)) + 1)) + 1)) + 1)) + 1)), (wr ((wr ((wr ((wr ((wr ((wr ((wr ((wr ((wr ((wr ((wr ((wr ((wr ((wr ((wr (n1 + 1)) + 1)) + 1)) + 1)) + 1)) + 1)) + 1)) + 1)) + 1)) + 1)) + 1)) + 1)) + 1)) + 1)) + 1)), (wr ((wr ((wr ((wr ((wr ((wr ((wr ((wr ((wr ((wr ((wr ((wr ((wr ((wr ((wr ((wr (n1 + 1)) + 1)) + 1)) + 1)) + 1)) + 1)) + 1)) + 1)) + 1)) + 1)) + 1)) + 1)) + 1)) + 1)) + 1)) + 1)), (wr ((wr ((wr ((wr ((wr ((wr ((wr ((wr ((wr ((wr ((wr ((wr ((wr ((wr ((wr ((wr ((wr (n1 + 1)) + 1)) + 1)) + 1)) + 1)) + 1)) + 1)) + 1)) + 1)) + 1)) + 1)) + 1)) + 1)) + 1)) + 1)) + 1)) + 1)), (wr ((wr ((wr ((wr ((wr ((wr ((wr ((wr ((wr ((wr ((wr ((wr ((wr ((wr ((wr ((wr ((wr ((wr (n1 + 1)) + 1)) + 1)) + 1)) + 1)) + 1)) + 1)) + 1)) + 1)) + 1)) + 1)) + 1)) + 1)) + 1)) + 1)) + 1)) + 1)) + 1)), ((Int.tmod (wr ((wr ((wr ((wr ((wr ((wr ((wr ((wr ((wr ((wr ((wr ((wr ((wr ((wr ((wr ((wr ((wr ((wr ((wr (n1 + 1)) + 1)) + 1)) + 1)) + 1)) + 1)) + 1)) + 1)) + 1)) + 1)) + 1)) + 1)) + 1)) + 1)) + 1)) + 1)) + 1)) + 1)) + 1)) 3) == 0)⟩ : Shape), (⟨(wr ((wr ((wr ((wr ((wr ((wr ((wr ((wr ((wr ((wr ((wr ((wr ((wr ((wr ((wr ((wr ((wr ((wr ((wr ((wr (n1 + 1)) + 1)) + 1)) + 1)) + 1)) + 1)) + 1)) + 1)) + 1)) + 1)) + 1)) + 1)) + 1)) + 1)) + 1)) + 1)) + 1)) + 1)) + 1)) + 1)), (wr ((wr ((wr ((wr ((wr ((wr ((wr ((wr ((wr ((wr ((wr ((wr ((wr ((wr ((wr ((wr ((wr ((wr ((wr ((wr ((wr (n1 + 1)) + 1)) + 1)) + 1)) + 1)) + 1)) + 1)) + 1)) + 1)) + 1)) + 1)) + 1)) + 1)) + 1)) + 1)) + 1)) + 1)) + 1)) + 1)) + 1)) + 1))⟩ : Orient), { y4_3.Other.Place with Region := (wr ((wr ((wr ((wr ((wr ((wr ((wr ((wr ((wr ((wr ((wr ((wr ((wr ((wr ((wr ((wr ((wr ((wr ((wr ((wr ((wr ((wr (n1 + 1)) + 1)) + 1)) + 1)) + 1)) + 1)) + 1)) + 1)) + 1)) + 1)) + 1)) + 1)) + 1)) + 1)) + 1)) + 1)) + 1)) + 1)) + 1)) + 1)) + 1)) + 1)) }, y4_3.Other.Move⟩ : Hand)⟩ : Sign)) (b := (⟨(⟨(⟨n1, (wr (n1 + 1)), (wr ((wr (n1 + 1)) + 1)), (wr ((wr ((wr (n1 + 1)) + 1)) + 1)), (wr ((wr ((wr ((wr (n1 + 1)) + 1)) + 1)) + 1)), ((Int.tmod (wr ((wr ((wr ((wr ((wr (n1 + 1)) + 1)) + 1)) + 1)) + 1)) 3) == 0)⟩ : Shape), (⟨(wr ((wr ((wr ((wr ((wr ((wr (n1 + 1)) + 1)) + 1)) + 1)) + 1)) + 1)), (wr ((wr ((wr ((wr ((wr ((wr ((wr (n1 + 1)) + 1)) + 1)) + 1)) + 1)) + 1)) + 1))⟩ : Orient), (⟨(wr ((wr ((wr ((wr ((wr ((wr ((wr ((wr (n1 + 1)) + 1)) + 1)) + 1)) + 1)) + 1)) + 1)) + 1)), (wr ((wr ((wr ((wr ((wr ((wr ((wr ((wr ((wr (n1 + 1)) + 1)) + 1)) + 1)) + 1)) + 1)) + 1)) + 1)) + 1)), ((Int.tmod (wr ((wr ((wr ((wr ((wr ((wr ((wr ((wr ((wr ((wr (n1 + 1)) + 1)) + 1)) + 1)) + 1)) + 1)) + 1)) + 1)) + 1)) + 1)) 3) == 0)⟩ : Place), (⟨v26_3, (wr ((wr ((wr ((wr ((wr ((wr ((wr ((wr ((wr ((wr ((wr ((wr (n1 + 1)) + 1)) + 1)) + 1)) + 1)) + 1)) + 1)) + 1)) + 1)) + 1)) + 1)) + 1))⟩ : Move)⟩ : Hand), ((Int.tmod (wr ((wr ((wr ((wr ((wr ((wr ((wr ((wr ((wr ((wr ((wr ((wr ((wr (n1 + 1)) + 1)) + 1)) + 1)) + 1)) + 1)) + 1)) + 1)) + 1)) + 1)) + 1)) + 1)) + 1)) 3) == 0), (⟨(⟨(wr ((wr ((wr ((wr ((wr ((wr ((wr ((wr ((wr ((wr ((wr ((wr ((wr ((wr (n1 + 1)) + 1)) + 1)) + 1)) + 1)) + 1)) + 1)) + 1)) + 1)) + 1)) + 1)) + 1)) + 1)) + 1)), (wr ((wr ((wr ((wr ((wr ((wr ((wr ((wr ((wr ((wr ((wr ((wr ((wr ((wr ((wr (n1 + 1)) + 1)) + 1)) + 1)) + 1)) + 1)) + 1)) + 1)) + 1)) + 1)) + 1)) + 1)) + 1)) + 1)) + 1)), (wr ((wr ((wr ((wr ((wr ((wr ((wr ((wr ((wr ((wr ((wr ((wr ((wr ((wr ((wr ((wr (n1 + 1)) + 1)) + 1)) + 1)) + 1)) + 1)) + 1)) + 1)) + 1)) + 1)) + 1)) + 1)) + 1)) + 1)) + 1)) + 1)), (wr ((wr ((wr ((wr ((wr ((wr ((wr ((wr ((wr ((wr ((wr ((wr ((wr ((wr ((wr ((wr ((wr (n1 + 1)) + 1)) + 1)) + 1)) + 1)) + 1)) + 1)) + 1)) + 1)) + 1)) + 1)) + 1)) + 1)) + 1)) + 1)) + 1)) + 1)), (wr ((wr ((wr ((wr ((wr ((wr ((wr ((wr ((wr ((wr ((wr ((wr ((wr ((wr ((wr ((wr ((wr ((wr (n1 + 1)) + 1)) + 1)) + 1)) + 1)) + 1)) + 1)) + 1)) + 1)) + 1)) + 1)) + 1)) + 1)) + 1)) + 1)) + 1)) + 1)) + 1)), ((Int.tmod (wr ((wr ((wr ((wr ((wr ((wr ((wr ((wr ((wr ((wr ((wr ((wr ((wr ((wr ((wr ((wr ((wr ((wr ((wr (n1 + 1)) + 1)) + 1)) + 1)) + 1)) + 1)) + 1)) + 1)) + 1)) + 1)) + 1)) + 1)) + 1)) + 1)) + 1)) + 1)) + 1)) + 1)) + 1)) 3) == 0)⟩ : Shape), (⟨(wr ((wr ((wr ((wr ((wr ((wr ((wr ((wr ((wr ((wr ((wr ((wr ((wr ((wr ((wr ((wr ((wr ((wr ((wr ((wr (n1 + 1)) + 1)) + 1)) + 1)) + 1)) + 1)) + 1)) + 1)) + 1)) + 1)) + 1)) + 1)) + 1)) + 1)) + 1)) + 1)) + 1)) + 1)) + 1)) + 1)), (wr ((wr ((wr ((wr ((wr ((wr ((wr ((wr ((wr ((wr ((wr ((wr ((wr ((wr ((wr ((wr ((wr ((wr ((wr ((wr ((wr (n1 + 1)) + 1)) + 1)) + 1)) + 1)) + 1)) + 1)) + 1)) + 1)) + 1)) + 1)) + 1)) + 1)) + 1)) + 1)) + 1)) + 1)) + 1)) + 1)) + 1)) + 1))⟩ : Orient), (⟨(wr ((wr ((wr ((wr ((wr ((wr ((wr ((wr ((wr ((wr ((wr ((wr ((wr ((wr ((wr ((wr ((wr ((wr ((wr ((wr ((wr ((wr (n1 + 1)) + 1)) + 1)) + 1)) + 1)) + 1)) + 1)) + 1)) + 1)) + 1)) + 1)) + 1)) + 1)) + 1)) + 1)) + 1)) + 1)) + 1)) + 1)) + 1)) + 1)) + 1)), (wr ((wr ((wr ((wr ((wr ((wr ((wr ((wr ((wr ((wr ((wr ((wr ((wr ((wr ((wr ((wr ((wr ((wr ((wr ((wr ((wr ((wr ((wr (n1 + 1)) + 1)) + 1)) + 1)) + 1)) + 1)) + 1)) + 1)) + 1)) + 1)) + 1)) + 1)) + 1)) + 1)) + 1)) + 1)) + 1)) + 1)) + 1)) + 1)) + 1)) + 1)) + 1)), y4_3.Other.Place.Contact⟩ : Place), y4_3.Other.Move⟩ : Hand)⟩ : Sign)) 0 23 ([.int .i64 (wr ((wr ((wr ((wr ((wr ((wr ((wr ((wr ((wr ((wr ((wr ((wr ((wr ((wr ((wr ((wr ((wr ((wr ((wr ((wr ((wr ((wr ((wr (n1 + 1)) + 1)) + 1)) + 1)) + 1)) + 1)) + 1)) + 1)) + 1)) + 1)) + 1)) + 1)) + 1)) + 1)) + 1)) + 1)) + 1)) + 1)) + 1)) + 1)) + 1)) + 1)) + 1))]) hy4_3 (by kernel_rfl) ?_)
      refine rend ?_
      refine c_seq ?_
      refine r_start ?_
      refine p 3 ?_
      refine rend ?_
      refine c_seq ?_
      refine r_start ?_
      refine p 5 ?_
      refine xq rfl (y_idxW (e := nSign) (el := 46) 0 (getI_set hy4_3)) ?_
      refine p 3 ?_
      refine xx rfl (e_stW2 (e := nSign) (a := (⟨(⟨(⟨n1, (wr (n1 + 1)), (wr ((wr (n1 + 1)) + 1)), (wr ((wr ((wr (n1 + 1)) + 1)) + 1)), (wr ((wr ((wr ((wr (n1 + 1)) + 1)) + 1)) + 1)), ((Int.tmod (wr ((wr ((wr ((wr ((wr (n1 + 1)) + 1)) + 1)) + 1)) + 1)) 3) == 0)⟩ : Shape), (⟨(wr ((wr ((wr ((wr ((wr ((wr (n1 + 1)) + 1)) + 1)) + 1)) + 1)) + 1)), (wr ((wr ((wr ((wr ((wr ((wr ((wr (n1 + 1)) + 1)) + 1)) + 1)) + 1)) + 1)) + 1))⟩ : Orient), (⟨(wr ((wr ((wr ((wr ((wr ((wr ((wr ((wr (n1 + 1)) + 1)) + 1)) + 1)) + 1)) + 1)) + 1)) + 1)), (wr ((wr ((wr ((wr ((wr ((wr ((wr ((wr ((wr (n1 + 1)) + 1)) + 1)) + 1)) + 1)) + 1)) + 1)) + 1)) + 1)), ((Int.tmod (wr ((wr ((wr ((wr ((wr ((wr ((wr ((wr ((wr ((wr (n1 + 1)) + 1)) + 1)) + 1)) + 1)) + 1)) + 1)) + 1)) + 1)) + 1)) 3) == 0)⟩ : Place), (⟨v26_3, (wr ((wr ((wr ((wr ((wr ((wr ((wr ((wr ((wr ((wr ((wr ((wr (n1 + 1)) + 1)) + 1)) + 1)) + 1)) + 1)) + 1)) + 1)) + 1)) + 1)) + 1)) + 1))⟩ : Move)⟩ : Hand), ((Int.tmod (wr ((wr ((wr ((wr ((wr ((wr ((wr ((wr ((wr ((wr ((wr ((wr ((wr (n1 + 1)) + 1)) + 1)) + 1)) + 1)) + 1)) + 1)) + 1)) + 1)) + 1)) + 1)) + 1)) + 1)) 3) == 0), (⟨(⟨(wr ((wr ((wr ((wr ((wr ((wr ((wr ((wr ((wr ((wr ((wr ((wr ((wr ((wr (n1 + 1)) + 1)) + 1)) + 1)) + 1)) + 1)) + 1)) + 1)) + 1)) + 1)) + 1)) + 1)) + 1)) + 1)), (wr ((wr ((wr ((wr ((wr ((wr ((wr ((wr ((wr ((wr ((wr ((wr ((wr ((wr ((wr (n1 + 1)) + 1)) + 1)) + 1)) + 1)) + 1)) + 1)) + 1)) + 1)) + 1)) + 1)) + 1)) + 1)) + 1)) + 1)), (wr ((wr ((wr ((wr ((wr ((wr ((wr ((wr ((wr ((wr ((wr ((wr ((wr ((wr ((wr ((wr (n1 + 1)) + 1)) + 1)) + 1)) + 1)) + 1)) + 1)) + 1)) + 1)) + 1)) + 1)) + 1)) + 1)) + 1)) + 1)) + 1)), (wr ((wr ((wr ((wr ((wr ((wr ((wr ((wr ((wr ((wr ((wr ((wr ((wr ((wr ((wr ((wr ((wr (n1 + 1)) + 1)) + 1)) + 1)) + 1)) + 1)) + 1)) + 1)) + 1)) + 1)) + 1)) + 1)) + 1)) + 1)) + 1)) + 1)) + 1)), (wr ((wr ((wr ((wr ((wr ((wr ((wr ((wr ((wr ((wr ((wr ((wr ((wr ((wr ((wr ((wr ((wr ((wr (n1 + 1)) + 1)) + 1)) + 1)) + 1)) + 1)) + 1)) + 1)) + 1)) + 1)) + 1)) + 1)) + 1)) + 1)) + 1)) + 1)) + 1)) + 1)), ((Int.tmod (wr ((wr ((wr ((wr ((wr ((wr ((wr ((wr ((wr ((wr ((wr ((wr ((wr ((wr ((wr ((wr ((wr ((wr ((wr (n1 + 1)) + 1)) + 1)) + 1)) + 1)) + 1)) + 1)) + 1)) + 1)) + 1)) + 1)) + 1)) + 1)) + 1)) + 1)) + 1)) + 1)) + 1)) + 1)) 3) == 0)⟩ : Shape), (⟨(wr ((wr ((wr ((wr ((wr ((wr ((wr ((wr ((wr ((wr ((wr ((wr ((wr ((wr ((wr ((wr ((wr ((wr ((wr ((wr (n1 + 1)) + 1)) + 1)) + 1)) + 1)) + 1)) + 1)) + 1)) + 1)) + 1)) + 1)) + 1)) + 1)) + 1)) + 1)) + 1)) + 1)) + 1)) + 1)) + 1)), (wr ((wr ((wr ((wr ((wr ((wr ((wr ((wr ((wr ((wr ((wr ((wr ((wr ((wr ((wr ((wr ((wr ((wr ((wr ((wr ((wr (n1 + 1)) + 1)) + 1)) + 1)) + 1)) + 1)) + 1)) + 1)) + 1)) + 1)) + 1)) + 1)) + 1)) + 1)) + 1)) + 1)) + 1)) + 1)) + 1)) + 1)) + 1))⟩ : Orient), (⟨(wr ((wr ((wr ((wr ((wr ((wr ((wr ((wr ((wr ((wr ((wr ((wr ((wr ((wr ((wr ((wr ((wr ((wr ((wr ((wr ((wr ((wr (n1 + 1)) + 1)) + 1)) + 1)) + 1)) + 1)) + 1)) + 1)) + 1)) + 1)) + 1)) + 1)) + 1)) + 1)) + 1)) + 1)) + 1)) + 1)) + 1)) + 1)) + 1)) + 1)), (wr ((wr ((wr ((wr ((wr ((wr ((wr ((wr ((wr ((wr ((wr ((wr ((wr ((wr ((wr ((wr ((wr ((wr ((wr ((wr ((wr ((wr ((wr (n1 + 1)) + 1)) + 1)) + 1)) + 1)) + 1)) + 1)) + 1)) + 1)) + 1)) + 1)) + 1)) + 1)) + 1)) + 1)) + 1)) + 1)) + 1)) + 1)) + 1)) + 1)) + 1)) + 1)), y4_3.Other.Place.Contact⟩ : Place), y4_3.Other.Move⟩ : Hand)⟩ : Sign)) (b := (⟨(⟨(⟨n1, (wr (n1 + 1)), (wr ((wr (n1 + 1)) + 1)), (wr ((wr ((wr (n1 + 1)) + 1)) + 1)), (wr ((wr ((wr ((wr (n1 + 1)) + 1)) + 1)) + 1)), ((Int.tmod (wr ((wr ((wr ((wr ((wr (n1 + 1)) + 1)) + 1)) + 1)) + 1)) 3) == 0)⟩ : Shape), (⟨(wr ((wr ((wr ((wr ((wr ((wr (n1 + 1)) + 1)) + 1)) + 1)) + 1)) + 1)), (wr ((wr ((wr ((wr ((wr ((wr ((wr (n1 + 1)) + 1)) + 1)) + 1)) + 1)) + 1)) + 1))⟩ : Orient), (⟨(wr ((wr ((wr ((wr ((wr ((wr ((wr ((wr (n1 + 1)) + 1)) + 1)) + 1)) + 1)) + 1)) + 1)) + 1)), (wr ((wr ((wr ((wr ((wr ((wr ((wr ((wr ((wr (n1 + 1)) + 1)) + 1)) + 1)) + 1)) + 1)) + 1)) + 1)) + 1)), ((Int.tmod (wr ((wr ((wr ((wr ((wr ((wr ((wr ((wr ((wr ((wr (n1 + 1)) + 1)) + 1)) + 1)) + 1)) + 1)) + 1)) + 1)) + 1)) + 1)) 3) == 0)⟩ : Place), (⟨v26_3, (wr ((wr ((wr ((wr ((wr ((wr ((wr ((wr ((wr ((wr ((wr ((wr (n1 + 1)) + 1)) + 1)) + 1)) + 1)) + 1)) + 1)) + 1)) + 1)) + 1)) + 1)) + 1))⟩ : Move)⟩ : Hand), ((Int.tmod (wr ((wr ((wr ((wr ((wr ((wr ((wr ((wr ((wr ((wr ((wr ((wr ((wr (n1 + 1)) + 1)) + 1)) + 1)) + 1)) + 1)) + 1)) + 1)) + 1)) + 1)) + 1)) + 1)) + 1)) 3) == 0), (⟨(⟨(wr ((wr ((wr ((wr ((wr ((wr ((wr ((wr ((wr ((wr ((wr ((wr ((wr ((wr (n1 + 1)) + 1)) + 1)) + 1)) + 1)) + 1)) + 1)) + 1)) + 1)) + 1)) + 1)) + 1)) + 1)) + 1)), (wr ((wr ((wr ((wr ((wr ((wr ((wr ((wr ((wr ((wr ((wr ((wr ((wr ((wr ((wr (n1 + 1)) + 1)) + 1)) + 1)) + 1)) + 1)) + 1)) + 1)) + 1)) + 1)) + 1)) + 1)) + 1)) + 1)) + 1)), (wr ((wr ((wr ((wr ((wr ((wr ((wr ((wr ((wr ((wr ((wr ((wr ((wr ((wr ((wr ((wr (n1 + 1)) + 1)) + 1)) + 1)) + 1)) + 1)) + 1)) + 1)) + 1)) + 1)) + 1)) + 1)) + 1)) + 1)) + 1)) + 1)), (wr ((wr ((wr ((wr ((wr ((wr ((wr ((wr ((wr ((wr ((wr ((wr ((wr ((wr ((wr ((wr ((wr (n1 + 1)) + 1)) + 1)) + 1)) + 1)) + 1)) + 1)) + 1)) + 1)) + 1)) + 1)) + 1)) + 1)) + 1)) + 1)) + 1)) + 1)), (wr ((wr ((wr ((wr ((wr ((wr ((wr ((wr ((wr ((wr ((wr ((wr ((wr ((wr ((wr ((wr ((wr ((wr (n1 + 1)) + 1)) + 1)) + 1)) + 1)) + 1)) + 1)) + 1)) + 1)) + 1)) + 1)) + 1)) + 1)) + 1)) + 1)) + 1)) + 1)) + 1)), ((Int.tmod (wr ((wr ((wr ((wr ((wr ((wr ((wr ((wr ((wr ((wr ((wr ((wr ((wr ((wr ((wr ((wr ((wr ((wr ((wr (n1 + 1)) + 1)) + 1)) + 1)) + 1)) + 1)) + 1)) + 1)) + 1)) + 1)) + 1)) + 1)) + 1)) + 1)) + 1)) + 1)) + 1)) + 1)) + 1)) 3) == 0)⟩ : Shape), (⟨(wr ((wr ((wr ((wr ((wr ((wr ((wr ((wr ((wr ((wr ((wr ((wr ((wr ((wr ((wr ((wr ((wr ((wr ((wr ((wr (n1 + 1)) + 1)) + 1)) + 1)) + 1)) + 1)) + 1)) + 1)) + 1)) + 1)) + 1)) + 1)) + 1)) + 1)) + 1)) + 1)) + 1)) + 1)) + 1)) + 1)), (wr ((wr ((wr ((wr ((wr ((wr ((wr ((wr ((wr ((wr ((wr ((wr ((wr ((wr ((wr ((wr ((wr ((wr ((wr ((wr ((wr (n1 + 1)) + 1)) + 1)) + 1)) + 1)) + 1)) + 1)) + 1)) + 1)) + 1)) + 1)) + 1)) + 1)) + 1)) + 1)) + 1)) + 1)) + 1)) + 1)) + 1)) + 1))⟩ : Orient), (⟨(wr ((wr ((wr ((wr ((wr ((wr ((wr ((wr ((wr ((wr ((wr ((wr ((wr ((wr ((wr ((wr ((wr ((wr ((wr ((wr ((wr ((wr (n1 + 1)) + 1)) + 1)) + 1)) + 1)) + 1)) + 1)) + 1)) + 1)) + 1)) + 1)) + 1)) + 1)) + 1)) + 1)) + 1)) + 1)) + 1)) + 1)) + 1)) + 1)) + 1)), (wr ((wr ((wr ((wr ((wr ((wr ((wr ((wr ((wr ((wr ((wr ((wr ((wr ((wr ((wr ((wr ((wr ((wr ((wr ((wr ((wr ((wr ((wr (n1 + 1)) + 1)) + 1)) + 1)) + 1)) + 1)) + 1)) + 1)) + 1)) + 1)) + 1)) + 1)) + 1)) + 1)) + 1)) + 1)) + 1)) + 1)) + 1)) + 1)) + 1)) + 1)) + 1)), ((Int.tmod (wr ((wr ((wr ((wr ((wr ((wr ((wr ((wr ((wr ((wr ((wr ((wr ((wr ((wr ((wr ((wr ((wr ((wr ((wr ((wr ((wr ((wr ((wr ((wr (n1 + 1)) + 1)) + 1)) + 1)) + 1)) + 1)) + 1)) + 1)) + 1)) + 1)) + 1)) + 1)) + 1)) + 1)) + 1)) + 1)) + 1)) + 1)) + 1)) + 1)) + 1)) + 1)) + 1)) + 1)) 3) == 0)⟩ : Place), y4_3.Other.Move⟩ : Hand)⟩ : Sign)) 0 24 ([.bool ((Int.tmod (wr ((wr ((wr ((wr ((wr ((wr ((wr ((wr ((wr ((wr ((wr ((wr ((wr ((wr ((wr ((wr ((wr ((wr ((wr ((wr ((wr ((wr ((wr ((wr (n1 + 1)) + 1)) + 1)) + 1)) + 1)) + 1)) + 1)) + 1)) + 1)) + 1)) + 1)) + 1)) + 1)) + 1)) + 1)) + 1)) + 1)) + 1)) + 1)) + 1)) + 1)) + 1)) + 1)) + 1)) 3) == 0)]) hy4_3 (by kernel_rfl) ?_)
      refine rend ?_
      refine c_seq ?_
      refine r_start ?_
      refine p 3 ?_
      refine rend ?_
      refine c_seq ?_
      refine r_start ?_
      refine p 3 ?_
      obtain ⟨v54_3, hv54_3, h⟩ := H.call h
      refine xq rfl (y_call [.int .i64 (wr ((wr ((wr ((wr ((wr ((wr ((wr ((wr ((wr ((wr ((wr ((wr ((wr ((wr ((wr ((wr ((wr ((wr ((wr ((wr ((wr ((wr ((wr ((wr ((wr (n1 + 1)) + 1)) + 1)) + 1)) + 1)) + 1)) + 1)) + 1)) + 1)) + 1)) + 1)) + 1)) + 1)) + 1)) + 1)) + 1)) + 1)) + 1)) + 1)) + 1)) + 1)) + 1)) + 1)) + 1)) + 1))] (.string (bs v54_3)) func67 (fun W S => C.l_markText W hv54_3)) ?_
      refine xq rfl (y_idxW (e := nSign) (el := 46) 0 (getI_set hy4_3)) ?_
      refine p 3 ?_
      refine xx rfl (e_stW2 (e := nSign) (a := (⟨(⟨(⟨n1, (wr (n1 + 1)), (wr ((wr (n1 + 1)) + 1)), (wr ((wr ((wr (n1 + 1)) + 1)) + 1)), (wr ((wr ((wr ((wr (n1 + 1)) + 1)) + 1)) + 1)), ((Int.tmod (wr ((wr ((wr ((wr ((wr (n1 + 1)) + 1)) + 1)) + 1)) + 1)) 3) == 0)⟩ : Shape), (⟨(wr ((wr ((wr ((wr ((wr ((wr (n1 + 1)) + 1)) + 1)) + 1)) + 1)) + 1)), (wr ((wr ((wr ((wr ((wr ((wr ((wr (n1 + 1)) + 1)) + 1)) + 1)) + 1)) + 1)) + 1))⟩ : Orient), (⟨(wr ((wr ((wr ((wr ((wr ((wr ((wr ((wr (n1 + 1)) + 1)) + 1)) + 1)) + 1)) + 1)) + 1)) + 1)), (wr ((wr ((wr ((wr ((wr ((wr ((wr ((wr ((wr (n1 + 1)) + 1)) + 1)) + 1)) + 1)) + 1)) + 1)) + 1)) + 1)), ((Int.tmod (wr ((wr ((wr ((wr ((wr ((wr ((wr ((wr ((wr ((wr (n1 + 1)) + 1)) + 1)) + 1)) + 1)) + 1)) + 1)) + 1)) + 1)) + 1)) 3) == 0)⟩ : Place), (⟨v26_3, (wr ((wr ((wr ((wr ((wr ((wr ((wr ((wr ((wr ((wr ((wr ((wr (n1 + 1)) + 1)) + 1)) + 1)) + 1)) + 1)) + 1)) + 1)) + 1)) + 1)) + 1)) + 1))⟩ : Move)⟩ : Hand), ((Int.tmod (wr ((wr ((wr ((wr ((wr ((wr ((wr ((wr ((wr ((wr ((wr ((wr ((wr (n1 + 1)) + 1)) + 1)) + 1)) + 1)) + 1)) + 1)) + 1)) + 1)) + 1)) + 1)) + 1)) + 1)) 3) == 0), (⟨(⟨(wr ((wr ((wr ((wr ((wr ((wr ((wr ((wr ((wr ((wr ((wr ((wr ((wr ((wr (n1 + 1)) + 1)) + 1)) + 1)) + 1)) + 1)) + 1)) + 1)) + 1)) + 1)) + 1)) + 1)) + 1)) + 1)), (wr ((wr ((wr ((wr ((wr ((wr ((wr ((wr ((wr ((wr ((wr ((wr ((wr ((wr ((wr (n1 + 1)) + 1)) + 1)) + 1)) + 1)) + 1)) + 1)) + 1)) + 1)) + 1)) + 1)) + 1)) + 1)) + 1)) + 1)), (wr ((wr ((wr ((wr ((wr ((wr ((wr ((wr ((wr ((wr ((wr ((wr ((wr ((wr ((wr ((wr (n1 + 1)) + 1)) + 1)) + 1)) + 1)) + 1)) + 1)) + 1)) + 1)) + 1)) + 1)) + 1)) + 1)) + 1)) + 1)) + 1)), (wr ((wr ((wr ((wr ((wr ((wr ((wr ((wr ((wr ((wr ((wr ((wr ((wr ((wr ((wr ((wr ((wr (n1 + 1)) + 1)) + 1)) + 1)) + 1)) + 1)) + 1)) + 1)) + 1)) + 1)) + 1)) + 1)) + 1)) + 1)) + 1)) + 1)) + 1)), (wr ((wr ((wr ((wr ((wr ((wr ((wr ((wr ((wr ((wr ((wr ((wr ((wr ((wr ((wr ((wr ((wr ((wr (n1 + 1)) + 1)) + 1)) + 1)) + 1)) + 1)) + 1)) + 1)) + 1)) + 1)) + 1)) + 1)) + 1)) + 1)) + 1)) + 1)) + 1)) + 1)), ((Int.tmod (wr ((wr ((wr ((wr ((wr ((wr ((wr ((wr ((wr ((wr ((wr ((wr ((wr ((wr ((wr ((wr ((wr ((wr ((wr (n1 + 1)) + 1)) + 1)) + 1)) + 1)) + 1)) + 1)) + 1)) + 1)) + 1)) + 1)) + 1)) + 1)) + 1)) + 1)) + 1)) + 1)) + 1)) + 1)) 3) == 0)⟩ : Shape), (⟨(wr ((wr ((wr ((wr ((wr ((wr ((wr ((wr ((wr ((wr ((wr ((wr ((wr ((wr ((wr ((wr ((wr ((wr ((wr ((wr (n1 + 1)) + 1)) + 1)) + 1)) + 1)) + 1)) + 1)) + 1)) + 1)) + 1)) + 1)) + 1)) + 1)) + 1)) + 1)) + 1)) + 1)) + 1)) + 1)) + 1)), (wr ((wr ((wr ((wr ((wr ((wr ((wr ((wr ((wr ((wr ((wr ((wr ((wr ((wr ((wr ((wr ((wr ((wr ((wr ((wr ((wr (n1 + 1)) + 1)) + 1)) + 1)) + 1)) + 1)) + 1)) + 1)) + 1)) + 1)) + 1)) + 1)) + 1)) + 1)) + 1)) + 1)) + 1)) + 1)) + 1)) + 1)) + 1))⟩ : Orient), (⟨(wr ((wr ((wr ((wr ((wr ((wr ((wr ((wr ((wr ((wr ((wr ((wr ((wr ((wr ((wr ((wr ((wr ((wr ((wr ((wr ((wr ((wr (n1 + 1)) + 1)) + 1)) + 1)) + 1)) + 1)) + 1)) + 1)) + 1)) + 1)) + 1)) + 1)) + 1)) + 1)) + 1)) + 1)) + 1)) + 1)) + 1)) + 1)) + 1)) + 1)), (wr ((wr ((wr ((wr ((wr ((wr ((wr ((wr ((wr ((wr ((wr ((wr ((wr ((wr ((wr ((wr ((wr ((wr ((wr ((wr ((wr ((wr ((wr (n1 + 1)) + 1)) + 1)) + 1)) + 1)) + 1)) + 1)) + 1)) + 1)) + 1)) + 1)) + 1)) + 1)) + 1)) + 1)) + 1)) + 1)) + 1)) + 1)) + 1)) + 1)) + 1)) + 1)), ((Int.tmod (wr ((wr ((wr ((wr ((wr ((wr ((wr ((wr ((wr ((wr ((wr ((wr ((wr ((wr ((wr ((wr ((wr ((wr ((wr ((wr ((wr ((wr ((wr ((wr (n1 + 1)) + 1)) + 1)) + 1)) + 1)) + 1)) + 1)) + 1)) + 1)) + 1)) + 1)) + 1)) + 1)) + 1)) + 1)) + 1)) + 1)) + 1)) + 1)) + 1)) + 1)) + 1)) + 1)) + 1)) 3) == 0)⟩ : Place), y4_3.Other.Move⟩ : Hand)⟩ : Sign)) (b := (⟨(⟨(⟨n1, (wr (n1 + 1)), (wr ((wr (n1 + 1)) + 1)), (wr ((wr ((wr (n1 + 1)) + 1)) + 1)), (wr ((wr ((wr ((wr (n1 + 1)) + 1)) + 1)) + 1)), ((Int.tmod (wr ((wr ((wr ((wr ((wr (n1 + 1)) + 1)) + 1)) + 1)) + 1)) 3) == 0)⟩ : Shape), (⟨(wr ((wr ((wr ((wr ((wr ((wr (n1 + 1)) + 1)) + 1)) + 1)) + 1)) + 1)), (wr ((wr ((wr ((wr ((wr ((wr ((wr (n1 + 1)) + 1)) + 1)) + 1)) + 1)) + 1)) + 1))⟩ : Orient), (⟨(wr ((wr ((wr ((wr ((wr ((wr ((wr ((wr (n1 + 1)) + 1)) + 1)) + 1)) + 1)) + 1)) + 1)) + 1)), (wr ((wr ((wr ((wr ((wr ((wr ((wr ((wr ((wr (n1 + 1)) + 1)) + 1)) + 1)) + 1)) + 1)) + 1)) + 1)) + 1)), ((Int.tmod (wr ((wr ((wr ((wr ((wr ((wr ((wr ((wr ((wr ((wr (n1 + 1)) + 1)) + 1)) + 1)) + 1)) + 1)) + 1)) + 1)) + 1)) + 1)) 3) == 0)⟩ : Place), (⟨v26_3, (wr ((wr ((wr ((wr ((wr ((wr ((wr ((wr ((wr ((wr ((wr ((wr (n1 + 1)) + 1)) + 1)) + 1)) + 1)) + 1)) + 1)) + 1)) + 1)) + 1)) + 1)) + 1))⟩ : Move)⟩ : Hand), ((Int.tmod (wr ((wr ((wr ((wr ((wr ((wr ((wr ((wr ((wr ((wr ((wr ((wr ((wr (n1 + 1)) + 1)) + 1)) + 1)) + 1)) + 1)) + 1)) + 1)) + 1)) + 1)) + 1)) + 1)) + 1)) 3) == 0), (⟨(⟨(wr ((wr ((wr ((wr ((wr ((wr ((wr ((wr ((wr ((wr ((wr ((wr ((wr ((wr (n1 + 1)) + 1)) + 1)) + 1)) + 1)) + 1)) + 1)) + 1)) + 1)) + 1)) + 1)) + 1)) + 1)) + 1)), (wr ((wr ((wr ((wr ((wr ((wr ((wr ((wr ((wr ((wr ((wr ((wr ((wr ((wr ((wr (n1 + 1)) + 1)) + 1)) + 1)) + 1)) + 1)) + 1)) + 1)) + 1)) + 1)) + 1)) + 1)) + 1)) + 1)) + 1)), (wr ((wr ((wr ((wr ((wr ((wr ((wr ((wr ((wr ((wr ((wr ((wr ((wr ((wr ((wr ((wr (n1 + 1)) + 1)) + 1)) + 1)) + 1)) + 1)) + 1)) + 1)) + 1)) + 1)) + 1)) + 1)) + 1)) + 1)) + 1)) + 1)), (wr ((wr ((wr ((wr ((wr ((wr ((wr ((wr ((wr ((wr ((wr ((wr ((wr ((wr ((wr ((wr ((wr (n1 + 1)) + 1)) + 1)) + 1)) + 1)) + 1)) + 1)) + 1)) + 1)) + 1)) + 1)) + 1)) + 1)) + 1)) + 1)) + 1)) + 1)), (wr ((wr ((wr ((wr ((wr ((wr ((wr ((wr ((wr ((wr ((wr ((wr ((wr ((wr ((wr ((wr ((wr ((wr (n1 + 1)) + 1)) + 1)) + 1)) + 1)) + 1)) + 1)) + 1)) + 1)) + 1)) + 1)) + 1)) + 1)) + 1)) + 1)) + 1)) + 1)) + 1)), ((Int.tmod (wr ((wr ((wr ((wr ((wr ((wr ((wr ((wr ((wr ((wr ((wr ((wr ((wr ((wr ((wr ((wr ((wr ((wr ((wr (n1 + 1)) + 1)) + 1)) + 1)) + 1)) + 1)) + 1)) + 1)) + 1)) + 1)) + 1)) + 1)) + 1)) + 1)) + 1)) + 1)) + 1)) + 1)) + 1)) 3) == 0)⟩ : Shape), (⟨(wr ((wr ((wr ((wr ((wr ((wr ((wr ((wr ((wr ((wr ((wr ((wr ((wr ((wr ((wr ((wr ((wr ((wr ((wr ((wr (n1 + 1)) + 1)) + 1)) + 1)) + 1)) + 1)) + 1)) + 1)) + 1)) + 1)) + 1)) + 1)) + 1)) + 1)) + 1)) + 1)) + 1)) + 1)) + 1)) + 1)), (wr ((wr ((wr ((wr ((wr ((wr ((wr ((wr ((wr ((wr ((wr ((wr ((wr ((wr ((wr ((wr ((wr ((wr ((wr ((wr ((wr (n1 + 1)) + 1)) + 1)) + 1)) + 1)) + 1)) + 1)) + 1)) + 1)) + 1)) + 1)) + 1)) + 1)) + 1)) + 1)) + 1)) + 1)) + 1)) + 1)) + 1)) + 1))⟩ : Orient), (⟨(wr ((wr ((wr ((wr ((wr ((wr ((wr ((wr ((wr ((wr ((wr ((wr ((wr ((wr ((wr ((wr ((wr ((wr ((wr ((wr ((wr ((wr (n1 + 1)) + 1)) + 1)) + 1)) + 1)) + 1)) + 1)) + 1)) + 1)) + 1)) + 1)) + 1)) + 1)) + 1)) + 1)) + 1)) + 1)) + 1)) + 1)) + 1)) + 1)) + 1)), (wr ((wr ((wr ((wr ((wr ((wr ((wr ((wr ((wr ((wr ((wr ((wr ((wr ((wr ((wr ((wr ((wr ((wr ((wr ((wr ((wr ((wr ((wr (n1 + 1)) + 1)) + 1)) + 1)) + 1)) + 1)) + 1)) + 1)) + 1)) + 1)) + 1)) + 1)) + 1)) + 1)) + 1)) + 1)) + 1)) + 1)) + 1)) + 1)) + 1)) + 1)) + 1)), ((Int.tmod (wr ((wr ((wr ((wr ((wr ((wr ((wr ((wr ((wr ((wr ((wr ((wr ((wr ((wr ((wr ((wr ((wr ((wr ((wr ((wr ((wr ((wr ((wr ((wr (n1 + 1)) + 1)) + 1)) + 1)) + 1)) + 1)) + 1)) + 1)) + 1)) + 1)) + 1)) + 1)) + 1)) + 1)) + 1)) + 1)) + 1)) + 1)) + 1)) + 1)) + 1)) + 1)) + 1)) + 1)) 3) == 0)⟩ : Place), { y4_3.Other.Move with Steps := v54_3 }⟩ : Hand)⟩ : Sign)) 0 25 ([.string (bs v54_3)]) hy4_3 (by kernel_rfl) ?_)
      refine rend ?_
      refine c_seq ?_
      refine r_start ?_
      refine p 3 ?_
      refine rend ?_
      refine c_seq ?_
      refine r_start ?_
      refine p 3 ?_
      refine xq rfl (y_idxW (e := nSign) (el := 46) 0 (getI_set hy4_3)) ?_
      refine p 3 ?_
      refine xx rfl (e_stW2 (e := nSign) (a := (⟨(⟨(⟨n1, (wr (n1 + 1)), (wr ((wr (n1 + 1)) + 1)), (wr ((wr ((wr (n1 + 1)) + 1)) + 1)), (wr ((wr ((wr ((wr (n1 + 1)) + 1)) + 1)) + 1)), ((Int.tmod (wr ((wr ((wr ((wr ((wr (n1 + 1)) + 1)) + 1)) + 1)) + 1)) 3) == 0)⟩ : Shape), (⟨(wr ((wr ((wr ((wr ((wr ((wr (n1 + 1)) + 1)) + 1)) + 1)) + 1)) + 1)), (wr ((wr ((wr ((wr ((wr ((wr ((wr (n1 + 1)) + 1)) + 1)) + 1)) + 1)) + 1)) + 1))⟩ : Orient), (⟨(wr ((wr ((wr ((wr ((wr ((wr ((wr ((wr (n1 + 1)) + 1)) + 1)) + 1)) + 1)) + 1)) + 1)) + 1)), (wr ((wr ((wr ((wr ((wr ((wr ((wr ((wr ((wr (n1 + 1)) + 1)) + 1)) + 1)) + 1)) + 1)) + 1)) + 1)) + 1)), ((Int.tmod (wr ((wr ((wr ((wr ((wr ((wr ((wr ((wr ((wr ((wr (n1 + 1)) + 1)) + 1)) + 1)) + 1)) + 1)) + 1)) + 1)) + 1)) + 1)) 3) == 0)⟩ : Place), (⟨v26_3, (wr ((wr ((wr ((wr ((wr ((wr ((wr ((wr ((wr ((wr ((wr ((wr (n1 + 1)) + 1)) + 1)) + 1)) + 1)) + 1)) + 1)) + 1)) + 1)) + 1)) + 1)) + 1))⟩ : Move)⟩ : Hand), ((Int.tmod (wr ((wr ((wr ((wr ((wr ((wr ((wr ((wr ((wr ((wr ((wr ((wr ((wr (n1 + 1)) + 1)) + 1)) + 1)) + 1)) + 1)) + 1)) + 1)) + 1)) + 1)) + 1)) + 1)) + 1)) 3) == 0), (⟨(⟨(wr ((wr ((wr ((wr ((wr ((wr ((wr ((wr ((wr ((wr ((wr ((wr ((wr ((wr (n1 + 1)) + 1)) + 1)) + 1)) + 1)) + 1)) + 1)) + 1)) + 1)) + 1)) + 1)) + 1)) + 1)) + 1)), (wr ((wr ((wr ((wr ((wr ((wr ((wr ((wr ((wr ((wr ((wr ((wr ((wr ((wr ((wr (n1 + 1)) + 1)) + 1)) + 1)) + 1)) + 1)) + 1)) + 1)) + 1)) + 1)) + 1)) + 1)) + 1)) + 1)) + 1)), (wr ((wr ((wr ((wr ((wr ((wr ((wr ((wr ((wr ((wr ((wr ((wr ((wr ((wr ((wr ((wr (n1 + 1)) + 1)) + 1)) + 1)) + 1)) + 1)) + 1)) + 1)) + 1)) + 1)) + 1)) + 1)) + 1)) + 1)) + 1)) + 1)), (wr ((wr ((wr ((wr ((wr ((wr ((wr ((wr ((wr ((wr ((wr ((wr ((wr ((wr ((wr ((wr ((wr (n1 + 1)) + 1)) + 1)) + 1)) + 1)) + 1)) + 1)) + 1)) + 1)) + 1)) + 1)) + 1)) + 1)) + 1)) + 1)) + 1)) + 1)), (wr ((wr ((wr ((wr ((wr ((wr ((wr ((wr ((wr ((wr ((wr ((wr ((wr ((wr ((wr ((wr ((wr ((wr (n1 + 1)) + 1)) + 1)) + 1)) + 1)) + 1)) + 1)) + 1)) + 1)) + 1)) + 1)) + 1)) + 1)) + 1)) + 1)) + 1)) + 1)) + 1)), ((Int.tmod (wr ((wr ((wr ((wr ((wr ((wr ((wr ((wr ((wr ((wr ((wr ((wr ((wr ((wr ((wr ((wr ((wr ((wr ((wr (n1 + 1)) + 1)) + 1)) + 1)) + 1)) + 1)) + 1)) + 1)) + 1)) + 1)) + 1)) + 1)) + 1)) + 1)) + 1)) + 1)) + 1)) + 1)) + 1)) 3) == 0)⟩ : Shape), (⟨(wr ((wr ((wr ((wr ((wr ((wr ((wr ((wr ((wr ((wr ((wr ((wr ((wr ((wr ((wr ((wr ((wr ((wr ((wr ((wr (n1 + 1)) + 1)) + 1)) + 1)) + 1)) + 1)) + 1)) + 1)) + 1)) + 1)) + 1)) + 1)) + 1)) + 1)) + 1)) + 1)) + 1)) + 1)) + 1)) + 1)), (wr ((wr ((wr ((wr ((wr ((wr ((wr ((wr ((wr ((wr ((wr ((wr ((wr ((wr ((wr ((wr ((wr ((wr ((wr ((wr ((wr (n1 + 1)) + 1)) + 1)) + 1)) + 1)) + 1)) + 1)) + 1)) + 1)) + 1)) + 1)) + 1)) + 1)) + 1)) + 1)) + 1)) + 1)) + 1)) + 1)) + 1)) + 1))⟩ : Orient), (⟨(wr ((wr ((wr ((wr ((wr ((wr ((wr ((wr ((wr ((wr ((wr ((wr ((wr ((wr ((wr ((wr ((wr ((wr ((wr ((wr ((wr ((wr (n1 + 1)) + 1)) + 1)) + 1)) + 1)) + 1)) + 1)) + 1)) + 1)) + 1)) + 1)) + 1)) + 1)) + 1)) + 1)) + 1)) + 1)) + 1)) + 1)) + 1)) + 1)) + 1)), (wr ((wr ((wr ((wr ((wr ((wr ((wr ((wr ((wr ((wr ((wr ((wr ((wr ((wr ((wr ((wr ((wr ((wr ((wr ((wr ((wr ((wr ((wr (n1 + 1)) + 1)) + 1)) + 1)) + 1)) + 1)) + 1)) + 1)) + 1)) + 1)) + 1)) + 1)) + 1)) + 1)) + 1)) + 1)) + 1)) + 1)) + 1)) + 1)) + 1)) + 1)) + 1)), ((Int.tmod (wr ((wr ((wr ((wr ((wr ((wr ((wr ((wr ((wr ((wr ((wr ((wr ((wr ((wr ((wr ((wr ((wr ((wr ((wr ((wr ((wr ((wr ((wr ((wr (n1 + 1)) + 1)) + 1)) + 1)) + 1)) + 1)) + 1)) + 1)) + 1)) + 1)) + 1)) + 1)) + 1)) + 1)) + 1)) + 1)) + 1)) + 1)) + 1)) + 1)) + 1)) + 1)) + 1)) + 1)) 3) == 0)⟩ : Place), { y4_3.Other.Move with Steps := v54_3 }⟩ : Hand)⟩ : Sign)) (b := (⟨(⟨(⟨n1, (wr (n1 + 1)), (wr ((wr (n1 + 1)) + 1)), (wr ((wr ((wr (n1 + 1)) + 1)) + 1)), (wr ((wr ((wr ((wr (n1 + 1)) + 1)) + 1)) + 1)), ((Int.tmod (wr ((wr ((wr ((wr ((wr (n1 + 1)) + 1)) + 1)) + 1)) + 1)) 3) == 0)⟩ : Shape), (⟨(wr ((wr ((wr ((wr ((wr ((wr (n1 + 1)) + 1)) + 1)) + 1)) + 1)) + 1)), (wr ((wr ((wr ((wr ((wr ((wr ((wr (n1 + 1)) + 1)) + 1)) + 1)) + 1)) + 1)) + 1))⟩ : Orient), (⟨(wr ((wr ((wr ((wr ((wr ((wr ((wr ((wr (n1 + 1)) + 1)) + 1)) + 1)) + 1)) + 1)) + 1)) + 1)), (wr ((wr ((wr ((wr ((wr ((wr ((wr ((wr ((wr (n1 + 1)) + 1)) + 1)) + 1)) + 1)) + 1)) + 1)) + 1)) + 1)), ((Int.tmod (wr ((wr ((wr ((wr ((wr ((wr ((wr ((wr ((wr ((wr (n1 + 1)) + 1)) + 1)) + 1)) + 1)) + 1)) + 1)) + 1)) + 1)) + 1)) 3) == 0)⟩ : Place), (⟨v26_3, (wr ((wr ((wr ((wr ((wr ((wr ((wr ((wr ((wr ((wr ((wr ((wr (n1 + 1)) + 1)) + 1)) + 1)) + 1)) + 1)) + 1)) + 1)) + 1)) + 1)) + 1)) + 1))⟩ : Move)⟩ : Hand), ((Int.tmod (wr ((wr ((wr ((wr ((wr ((wr ((wr ((wr ((wr ((wr ((wr ((wr ((wr (n1 + 1)) + 1)) + 1)) + 1)) + 1)) + 1)) + 1)) + 1)) + 1)) + 1)) + 1)) + 1)) + 1)) 3) == 0), (⟨(⟨(wr ((wr ((wr ((wr ((wr ((wr ((wr ((wr ((wr ((wr ((wr ((wr ((wr ((wr (n1 + 1)) + 1)) + 1)) + 1)) + 1)) + 1)) + 1)) + 1)) + 1)) + 1)) + 1)) + 1)) + 1)) + 1)), (wr ((wr ((wr ((wr ((wr ((wr ((wr ((wr ((wr ((wr ((wr ((wr ((wr ((wr ((wr (n1 + 1)) + 1)) + 1)) + 1)) + 1)) + 1)) + 1)) + 1)) + 1)) + 1)) + 1)) + 1)) + 1)) + 1)) + 1)), (wr ((wr ((wr ((wr ((wr ((wr ((wr ((wr ((wr ((wr ((wr ((wr ((wr ((wr ((wr ((wr (n1 + 1)) + 1)) + 1)) + 1)) + 1)) + 1)) + 1)) + 1)) + 1)) + 1)) + 1)) + 1)) + 1)) + 1)) + 1)) + 1)), (wr ((wr ((wr ((wr ((wr ((wr ((wr ((wr ((wr ((wr ((wr ((wr ((wr ((wr ((wr ((wr ((wr (n1 + 1)) + 1)) + 1)) + 1)) + 1)) + 1)) + 1)) + 1)) + 1)) + 1)) + 1)) + 1)) + 1)) + 1)) + 1)) + 1)) + 1)), (wr ((wr ((wr ((wr ((wr ((wr ((wr ((wr ((wr ((wr ((wr ((wr ((wr ((wr ((wr ((wr ((wr ((wr (n1 + 1)) + 1)) + 1)) + 1)) + 1)) + 1)) + 1)) + 1)) + 1)) + 1)) + 1)) + 1)) + 1)) + 1)) + 1)) + 1)) + 1)) + 1)), ((Int.tmod (wr ((wr ((wr ((wr ((wr ((wr ((wr ((wr ((wr ((wr ((wr ((wr ((wr ((wr ((wr ((wr ((wr ((wr ((wr (n1 + 1)) + 1)) + 1)) + 1)) + 1)) + 1)) + 1)) + 1)) + 1)) + 1)) + 1)) + 1)) + 1)) + 1)) + 1)) + 1)) + 1)) + 1)) + 1)) 3) == 0)⟩ : Shape), (⟨(wr ((wr ((wr ((wr ((wr ((wr ((wr ((wr ((wr ((wr ((wr ((wr ((wr ((wr ((wr ((wr ((wr ((wr ((wr ((wr (n1 + 1)) + 1)) + 1)) + 1)) + 1)) + 1)) + 1)) + 1)) + 1)) + 1)) + 1)) + 1)) + 1)) + 1)) + 1)) + 1)) + 1)) + 1)) + 1)) + 1)), (wr ((wr ((wr ((wr ((wr ((wr ((wr ((wr ((wr ((wr ((wr ((wr ((wr ((wr ((wr ((wr ((wr ((wr ((wr ((wr ((wr (n1 + 1)) + 1)) + 1)) + 1)) + 1)) + 1)) + 1)) + 1)) + 1)) + 1)) + 1)) + 1)) + 1)) + 1)) + 1)) + 1)) + 1)) + 1)) + 1)) + 1)) + 1))⟩ : Orient), (⟨(wr ((wr ((wr ((wr ((wr ((wr ((wr ((wr ((wr ((wr ((wr ((wr ((wr ((wr ((wr ((wr ((wr ((wr ((wr ((wr ((wr ((wr (n1 + 1)) + 1)) + 1)) + 1)) + 1)) + 1)) + 1)) + 1)) + 1)) + 1)) + 1)) + 1)) + 1)) + 1)) + 1)) + 1)) + 1)) + 1)) + 1)) + 1)) + 1)) + 1)), (wr ((wr ((wr ((wr ((wr ((wr ((wr ((wr ((wr ((wr ((wr ((wr ((wr ((wr ((wr ((wr ((wr ((wr ((wr ((wr ((wr ((wr ((wr (n1 + 1)) + 1)) + 1)) + 1)) + 1)) + 1)) + 1)) + 1)) + 1)) + 1)) + 1)) + 1)) + 1)) + 1)) + 1)) + 1)) + 1)) + 1)) + 1)) + 1)) + 1)) + 1)) + 1)), ((Int.tmod (wr ((wr ((wr ((wr ((wr ((wr ((wr ((wr ((wr ((wr ((wr ((wr ((wr ((wr ((wr ((wr ((wr ((wr ((wr ((wr ((wr ((wr ((wr ((wr (n1 + 1)) + 1)) + 1)) + 1)) + 1)) + 1)) + 1)) + 1)) + 1)) + 1)) + 1)) + 1)) + 1)) + 1)) + 1)) + 1)) + 1)) + 1)) + 1)) + 1)) + 1)) + 1)) + 1)) + 1)) 3) == 0)⟩ : Place), (⟨v54_3, (wr ((wr ((wr ((wr ((wr ((wr ((wr ((wr ((wr ((wr ((wr ((wr ((wr ((wr ((wr ((wr ((wr ((wr ((wr ((wr ((wr ((wr ((wr ((wr ((wr ((wr (n1 + 1)) + 1)) + 1)) + 1)) + 1)) + 1)) + 1)) + 1)) + 1)) + 1)) + 1)) + 1)) + 1)) + 1)) + 1)) + 1)) + 1)) + 1)) + 1)) + 1)) + 1)) + 1)) + 1)) + 1)) + 1)) + 1))⟩ : Move)⟩ : Hand)⟩ : Sign)) 0 26 ([.int .i64 (wr ((wr ((wr ((wr ((wr ((wr ((wr ((wr ((wr ((wr ((wr ((wr ((wr ((wr ((wr ((wr ((wr ((wr ((wr ((wr ((wr ((wr ((wr ((wr ((wr ((wr (n1 + 1)) + 1)) + 1)) + 1)) + 1)) + 1)) + 1)) + 1)) + 1)) + 1)) + 1)) + 1)) + 1)) + 1)) + 1)) + 1)) + 1)) + 1)) + 1)) + 1)) + 1)) + 1)) + 1)) + 1)) + 1)) + 1))]) hy4_3 (by kernel_rfl) ?_)
      refine rend ?_
      refine r_start ?_
      refine p 3 ?_
      refine rend ?_
      refine c_inb ?_
      refine r_start ?_
      refine p 3 ?_
      refine rend ?_
      replace h := H.inl h
      exact h ((wr ((wr ((wr ((wr ((wr ((wr ((wr ((wr ((wr ((wr ((wr ((wr ((wr ((wr ((wr ((wr ((wr ((wr ((wr ((wr ((wr ((wr ((wr ((wr ((wr ((wr ((wr (n1 + 1)) + 1)) + 1)) + 1)) + 1)) + 1)) + 1)) + 1)) + 1)) + 1)) + 1)) + 1)) + 1)) + 1)) + 1)) + 1)) + 1)) + 1)) + 1)) + 1)) + 1)) + 1)) + 1)) + 1)) + 1)) + 1)) + 1)), (wr (n2 + 1)), (List.set l3 (Int.toNat n2) (⟨(⟨(⟨n1, (wr (n1 + 1)), (wr ((wr (n1 + 1)) + 1)), (wr ((wr ((wr (n1 + 1)) + 1)) + 1)), (wr ((wr ((wr ((wr (n1 + 1)) + 1)) + 1)) + 1)), ((Int.tmod (wr ((wr ((wr ((wr ((wr (n1 + 1)) + 1)) + 1)) + 1)) + 1)) 3) == 0)⟩ : Shape), (⟨(wr ((wr ((wr ((wr ((wr ((wr (n1 + 1)) + 1)) + 1)) + 1)) + 1)) + 1)), (wr ((wr ((wr ((wr ((wr ((wr ((wr (n1 + 1)) + 1)) + 1)) + 1)) + 1)) + 1)) + 1))⟩ : Orient), (⟨(wr ((wr ((wr ((wr ((wr ((wr ((wr ((wr (n1 + 1)) + 1)) + 1)) + 1)) + 1)) + 1)) + 1)) + 1)), (wr ((wr ((wr ((wr ((wr ((wr ((wr ((wr ((wr (n1 + 1)) + 1)) + 1)) + 1)) + 1)) + 1)) + 1)) + 1)) + 1)), ((Int.tmod (wr ((wr ((wr ((wr ((wr ((wr ((wr ((wr ((wr ((wr (n1 + 1)) + 1)) + 1)) + 1)) + 1)) + 1)) + 1)) + 1)) + 1)) + 1)) 3) == 0)⟩ : Place), (⟨v26_3, (wr ((wr ((wr ((wr ((wr ((wr ((wr ((wr ((wr ((wr ((wr ((wr (n1 + 1)) + 1)) + 1)) + 1)) + 1)) + 1)) + 1)) + 1)) + 1)) + 1)) + 1)) + 1))⟩ : Move)⟩ : Hand), ((Int.tmod (wr ((wr ((wr ((wr ((wr ((wr ((wr ((wr ((wr ((wr ((wr ((wr ((wr (n1 + 1)) + 1)) + 1)) + 1)) + 1)) + 1)) + 1)) + 1)) + 1)) + 1)) + 1)) + 1)) + 1)) 3) == 0), (⟨(⟨(wr ((wr ((wr ((wr ((wr ((wr ((wr ((wr ((wr ((wr ((wr ((wr ((wr ((wr (n1 + 1)) + 1)) + 1)) + 1)) + 1)) + 1)) + 1)) + 1)) + 1)) + 1)) + 1)) + 1)) + 1)) + 1)), (wr ((wr ((wr ((wr ((wr ((wr ((wr ((wr ((wr ((wr ((wr ((wr ((wr ((wr ((wr (n1 + 1)) + 1)) + 1)) + 1)) + 1)) + 1)) + 1)) + 1)) + 1)) + 1)) + 1)) + 1)) + 1)) + 1)) + 1)), (wr ((wr ((wr ((wr ((wr ((wr ((wr ((wr ((wr ((wr ((wr ((wr ((wr ((wr ((wr ((wr (n1 + 1)) + 1)) + 1)) + 1)) + 1)) + 1)) + 1)) + 1)) + 1)) + 1)) + 1)) + 1)) + 1)) + 1)) + 1)) + 1)), (wr ((wr ((wr ((wr ((wr ((wr ((wr ((wr ((wr ((wr ((wr ((wr ((wr ((wr ((wr ((wr ((wr (n1 + 1)) + 1)) + 1)) + 1)) + 1)) + 1)) + 1)) + 1)) + 1)) + 1)) + 1)) + 1)) + 1)) + 1)) + 1)) + 1)) + 1)), (wr ((wr ((wr ((wr ((wr ((wr ((wr ((wr ((wr ((wr ((wr ((wr ((wr ((wr ((wr ((wr ((wr ((wr (n1 + 1)) + 1)) + 1)) + 1)) + 1)) + 1)) + 1)) + 1)) + 1)) + 1)) + 1)) + 1)) + 1)) + 1)) + 1)) + 1)) + 1)) + 1)), ((Int.tmod (wr ((wr ((wr ((wr ((wr ((wr ((wr ((wr ((wr ((wr ((wr ((wr ((wr ((wr ((wr ((wr ((wr ((wr ((wr (n1 + 1)) + 1)) + 1)) + 1)) + 1)) + 1)) + 1)) + 1)) + 1)) + 1)) + 1)) + 1)) + 1)) + 1)) + 1)) + 1)) + 1)) + 1)) + 1)) 3) == 0)⟩ : Shape), (⟨(wr ((wr ((wr ((wr ((wr ((wr ((wr ((wr ((wr ((wr ((wr ((wr ((wr ((wr ((wr ((wr ((wr ((wr ((wr ((wr (n1 + 1)) + 1)) + 1)) + 1)) + 1)) + 1)) + 1)) + 1)) + 1)) + 1)) + 1)) + 1)) + 1)) + 1)) + 1)) + 1)) + 1)) + 1)) + 1)) + 1)), (wr ((wr ((wr ((wr ((wr ((wr ((wr ((wr ((wr ((wr ((wr ((wr ((wr ((wr ((wr ((wr ((wr ((wr ((wr ((wr ((wr (n1 + 1)) + 1)) + 1)) + 1)) + 1)) + 1)) + 1)) + 1)) + 1)) + 1)) + 1)) + 1)) + 1)) + 1)) + 1)) + 1)) + 1)) + 1)) + 1)) + 1)) + 1))⟩ : Orient), (⟨(wr ((wr ((wr ((wr ((wr ((wr ((wr ((wr ((wr ((wr ((wr ((wr ((wr ((wr ((wr ((wr ((wr ((wr ((wr ((wr ((wr ((wr (n1 + 1)) + 1)) + 1)) + 1)) + 1)) + 1)) + 1)) + 1)) + 1)) + 1)) + 1)) + 1)) + 1)) + 1)) + 1)) + 1)) + 1)) + 1)) + 1)) + 1)) + 1)) + 1)), (wr ((wr ((wr ((wr ((wr ((wr ((wr ((wr ((wr ((wr ((wr ((wr ((wr ((wr ((wr ((wr ((wr ((wr ((wr ((wr ((wr ((wr ((wr (n1 + 1)) + 1)) + 1)) + 1)) + 1)) + 1)) + 1)) + 1)) + 1)) + 1)) + 1)) + 1)) + 1)) + 1)) + 1)) + 1)) + 1)) + 1)) + 1)) + 1)) + 1)) + 1)) + 1)), ((Int.tmod (wr ((wr ((wr ((wr ((wr ((wr ((wr ((wr ((wr ((wr ((wr ((wr ((wr ((wr ((wr ((wr ((wr ((wr ((wr ((wr ((wr ((wr ((wr ((wr (n1 + 1)) + 1)) + 1)) + 1)) + 1)) + 1)) + 1)) + 1)) + 1)) + 1)) + 1)) + 1)) + 1)) + 1)) + 1)) + 1)) + 1)) + 1)) + 1)) + 1)) + 1)) + 1)) + 1)) + 1)) 3) == 0)⟩ : Place), (⟨v54_3, (wr ((wr ((wr ((wr ((wr ((wr ((wr ((wr ((wr ((wr ((wr ((wr ((wr ((wr ((wr ((wr ((wr ((wr ((wr ((wr ((wr ((wr ((wr ((wr ((wr ((wr (n1 + 1)) + 1)) + 1)) + 1)) + 1)) + 1)) + 1)) + 1)) + 1)) + 1)) + 1)) + 1)) + 1)) + 1)) + 1)) + 1)) + 1)) + 1)) + 1)) + 1)) + 1)) + 1)) + 1)) + 1)) + 1)) + 1))⟩ : Move)⟩ : Hand)⟩ : Sign))) _ _ rfl (by kernel_rfl) (by kernel_rfl)
    replace h := H.f q7 h
    refine cx ?_
    replace h := H.inr h
    exact hj6 (n1, l3) _ _ h (by kernel_rfl) (by kernel_rfl)
  intro x u h
  obtain ⟨n4, l5⟩ := x
  refine c_seq ?_
  refine r_start ?_
  refine p 2 ?_
  refine rend ?_
  replace h := H.done h
  subst h
  exact ret func27 rfl (vs := [.int .i64 n4]) (.tmp (by kernel_rfl) .nil) rfl (fun W S => S.retW)
theorem C.l_markIntS {fu : Nat} {a0 : (List Int)} {A0 : Option Addr} {k0 B0 n0 : Nat} {a1 : Int} {r : (Int × (List Int))} (w : World) (h : X.l_markIntS fu a0 a1 = some r) (hn0 : List.length a0 = n0) (h0 : World.ownsRow w B0 3 (Enc.sz (eI .i64)) (.slice A0 n0 k0) n0 (Enc.flat (eI .i64) a0)) : Calls prog 28 #[.slice A0 (n0) k0, .int .i64 a1] w (RetW (eI .i64) B0 3 A0 n0 k0 w r.2 (.int .i64 r.1)) := by
  subst hn0
  refine callsW (args := [.slice A0 (List.length a0) k0, .int .i64 a1]) rfl h0 func28 rfl ?_
  replace h : H (X.l_markIntS fu a0 a1) (fun o => o = r) := H.mk h
  unfold X.l_markIntS at h
  refine c_seq ?_
  refine r_start ?_
  refine p 1 ?_
  refine rend ?_
  refine c_seq ?_
  refine c_seq ?_
  refine r_start ?_
  refine p 1 ?_
  refine rend ?_
  refine c_block ?_
  refine joinH (X := (Int × (List Int))) 0 (H.bnd h) (fun (x : (Int × (List Int))) => x) (fun ⟨n4, l5⟩ => [argW (eI .i64) B0 3 A0 (List.length a0) k0 l5]) (fun ⟨n4, l5⟩ u => (jk u 0 1 (.int .i64 n4 :: (jk u 2 17 [])))) (fun h hj6 => ?_) ?_
  · skip
    refine loopR (X := (Int × Int × (List Int))) (fun (x : (Int × Int × (List Int))) => x) (fun ⟨n1, n2, l3⟩ => [argW (eI .i64) B0 3 A0 (List.length a0) k0 l3]) (fun ⟨n1, n2, l3⟩ u => (.slice A0 (List.length a0) k0 :: .int .i64 n1 :: (jk u 2 3 (.int .i64 n2 :: (jk u 6 13 []))))) (a1, 0, a0) h (by kernel_rfl) (by kernel_rfl) ?_
    intro x u h
    obtain ⟨n1, n2, l3⟩ := x
    refine c_seq ?_
    refine c_seq ?_
    refine r_start ?_
    refine p 4 ?_
    refine rend ?_
    refine c_or (decide (n2 < (List.length a0 : Int))) (fun q7 => ?_) (fun q7 => ?_)
    · replace h := H.t q7 h
      refine c_skip ?_
      refine c_seq ?_
      refine c_block ?_
      refine c_seq ?_
      refine r_start ?_
      refine p 3 ?_
      obtain ⟨y4_3, hy4_3, h⟩ := H.call h
      refine xq rfl (y_idxW (e := (eI .i64)) (el := 3) 0 hy4_3) ?_
      refine xx rfl (e_stW (e := (eI .i64)) (b := n1) 0 0 ([.int .i64 n1]) hy4_3 (by kernel_rfl) ?_)
      refine rend ?_
      refine r_start ?_
      refine p 3 ?_
      refine rend ?_
      refine c_inb ?_
      refine r_start ?_
      refine p 3 ?_
      refine rend ?_
      replace h := H.inl h
      exact h ((wr (n1 + 1)), (wr (n2 + 1)), (List.set l3 (Int.toNat n2) n1)) _ _ rfl (by kernel_rfl) (by kernel_rfl)
    replace h := H.f q7 h
    refine cx ?_
    replace h := H.inr h
    exact hj6 (n1, l3) _ _ h (by kernel_rfl) (by kernel_rfl)
  intro x u h
  obtain ⟨n4, l5⟩ := x
  refine c_seq ?_
  refine r_start ?_
  refine p 2 ?_
  refine rend ?_
  replace h := H.done h
  subst h
  exact ret func28 rfl (vs := [.int .i64 n4]) (.tmp (by kernel_rfl) .nil) rfl (fun W S => S.retW)
theorem C.l_heldIntS {fu : Nat} {a0 : (List Int)} {A0 : Option Addr} {k0 : Nat} {a1 : Int} {r : Int} (w : World) (h : X.l_heldIntS fu a0 a1 = some r) (h0 : RdT (eI .i64) w (.slice A0 (List.length a0) k0) a0) : Calls prog 29 #[.slice A0 (List.length a0) k0, .int .i64 a1] w (Ret w (.int .i64 r)) := by
  refine calls (M := no) (args := [.slice A0 (List.length a0) k0, .int .i64 a1]) func29 rfl ?_
  replace h : H (X.l_heldIntS fu a0 a1) (fun o => o = r) := H.mk h
  unfold X.l_heldIntS at h
  refine c_seq ?_
  refine r_start ?_
  refine p 1 ?_
  refine rend ?_
  refine c_seq ?_
  refine c_seq ?_
  refine r_start ?_
  refine p 1 ?_
  refine rend ?_
  refine c_block ?_
  refine joinE (X := Int) 0 (H.or h) (fun (x : Int) => x) (fun n3 => []) (fun n3 u => (jk u 0 1 (.int .i64 n3 :: (jk u 2 19 [])))) (fun h hj4 => ?_) ?_
  · skip
    refine loopR (X := (Int × Int)) (fun (x : (Int × Int)) => x) (fun ⟨n1, n2⟩ => []) (fun ⟨n1, n2⟩ u => (.slice A0 (List.length a0) k0 :: .int .i64 n1 :: (jk u 2 3 (.int .i64 n2 :: (jk u 6 15 []))))) (a1, 0) h (by kernel_rfl) (by kernel_rfl) ?_
    intro x u h
    obtain ⟨n1, n2⟩ := x
    refine c_seq ?_
    refine c_seq ?_
    refine r_start ?_
    refine p 4 ?_
    refine rend ?_
    refine c_or (decide (n2 < (List.length a0 : Int))) (fun q5 => ?_) (fun q5 => ?_)
    · replace h := H.t q5 h
      refine c_skip ?_
      refine c_seq ?_
      refine c_block ?_
      refine c_seq ?_
      refine c_seq ?_
      refine r_start ?_
      refine p 2 ?_
      obtain ⟨y4_2, hy4_2, h⟩ := H.call h
      refine xq rfl (y_idx (e := (eI .i64)) (el := 3) hy4_2 (s_arg h0)) ?_
      refine xq rfl (y_el (e := (eI .i64)) 0 (.int .i64 y4_2) hy4_2 (s_arg h0)) ?_
      refine p 2 ?_
      refine rend ?_
      refine c_or (y4_2 != n1) (fun q6 => ?_) (fun q6 => ?_)
      · replace h := H.t q6 h
        refine c_seq ?_
        refine r_start ?_
        refine p 1 ?_
        refine rend ?_
        replace h := H.inr h
        replace h := H.done h
        subst h
        exact ret func29 rfl (vs := [.int .i64 (-1)]) (.tmp (by kernel_rfl) .nil) rfl (fun W S => ⟨rfl, S.below⟩)
      replace h := H.f q6 h
      refine c_skip ?_
      refine r_start ?_
      refine p 3 ?_
      refine rend ?_
      refine c_inb ?_
      refine r_start ?_
      refine p 3 ?_
      refine rend ?_
      replace h := H.inl h
      exact h ((wr (n1 + 1)), (wr (n2 + 1))) _ _ rfl (by kernel_rfl) (by kernel_rfl)
    replace h := H.f q5 h
    refine cx ?_
    replace h := H.inr h
    exact hj4 n1 _ _ h (by kernel_rfl) (by kernel_rfl)
  intro n3 u h
  refine c_seq ?_
  refine r_start ?_
  refine p 2 ?_
  refine rend ?_
  replace h := H.done h
  subst h
  exact ret func29 rfl (vs := [.int .i64 n3]) (.tmp (by kernel_rfl) .nil) rfl (fun W S => ⟨rfl, S.below⟩)
theorem C.l_FnExactSmoothestOrder {fu : Nat} {a0 : (List Sign)} {A0 : Option Addr} {k0 : Nat} {r : Bool} (w : World) (h : X.l_FnExactSmoothestOrder fu a0 = some r) (h0 : RdT nSign w (.slice A0 (List.length a0) k0) a0) : Calls prog 5 #[.slice A0 (List.length a0) k0] w (Ret w (.bool r)) := by
  refine calls (M := no) (args := [.slice A0 (List.length a0) k0]) func5 rfl ?_
  replace h : H (X.l_FnExactSmoothestOrder fu a0) (fun o => o = r) := H.mk h
  unfold X.l_FnExactSmoothestOrder at h
  refine c_seq ?_
  refine r_start ?_
  refine p 1 ?_
  refine rend ?_
  refine c_seq ?_
  refine r_start ?_
  refine p 1 ?_
  refine rend ?_
  refine c_seq ?_
  refine r_start ?_
  refine p 2 ?_
  obtain ⟨v2_2, hv2_2, h⟩ := H.call h
  refine xq rfl (y_call [.slice A0 (List.length a0) k0, .int .i64 1048576] (.int .i64 v2_2) func23 (fun W S => C.l_szSignS W hv2_2 ((s_arg h0).out W S))) ?_
  refine p 1 ?_
  refine rend ?_
  refine c_seq ?_
  refine c_seq ?_
  refine r_start ?_
  refine p 2 ?_
  refine rend ?_
  refine c_or (decide (v2_2 < 0)) (fun q1 => ?_) (fun q1 => ?_)
  · replace h := H.t q1 h
    refine c_seq ?_
    refine r_start ?_
    refine p 1 ?_
    refine rend ?_
    replace h := H.done h
    subst h
    exact ret func5 rfl (vs := [.bool true]) (.tmp (by kernel_rfl) .nil) rfl (fun W S => ⟨rfl, S.below⟩)
  replace h := H.f q1 h
  refine c_skip ?_
  refine c_seq ?_
  refine r_start ?_
  refine p 1 ?_
  obtain ⟨v5_1, hv5_1, h⟩ := H.call h
  refine xx rfl (e_cr [.slice A0 (List.length a0) k0] (fun v => v) func24 (fun W S => C.l_toSignS W hv5_1 ((s_arg h0).out W S)) fun A5_1 k5_1 => ?_)
  obtain ⟨v5_2, hv5_2, h⟩ := H.call h
  refine xx rfl (e_crO [.slice A5_1 (List.length v5_1) k5_1] (fun v => .tuple #[v, .int .i64 v5_2.2.1, .bool v5_2.2.2]) func10 (fun W S => C.s_SmoothestOrder W hv5_2 ((s_own 0).out W S)) fun A5_2 k5_2 => ?_)
  refine p 7 ?_
  refine rend ?_
  refine c_seq ?_
  refine r_start ?_
  refine p 1 ?_
  obtain ⟨v6_1, hv6_1, h⟩ := H.call h
  refine xx rfl (e_cr [.slice A0 (List.length a0) k0] (fun v => v) func24 (fun W S => C.l_toSignS W hv6_1 ((s_arg h0).out W S)) fun A6_1 k6_1 => ?_)
  refine p 1 ?_
  refine rend ?_
  refine c_seq ?_
  refine r_start ?_
  refine p 1 ?_
  obtain ⟨v7_1, hv7_1, h⟩ := H.call h
  refine xx rfl (e_cr [.slice A6_1 (List.length v6_1) k6_1] (fun v => .tuple #[v, .int .i64 v7_1.2.1, .bool v7_1.2.2]) func9 (fun W S => C.i_SmoothestOrder W hv7_1 ((s_own 2).out W S)) fun A7_1 k7_1 => ?_)
  refine p 7 ?_
  refine rend ?_
  refine c_seq ?_
  refine c_seq ?_
  refine r_start ?_
  refine p 2 ?_
  obtain ⟨v8_2, hv8_2, h⟩ := H.call h
  refine xq rfl (y_call [.slice A7_1 (List.length v7_1.1) k7_1, .slice A5_2 (List.length v5_2.1) k5_2] (.bool v8_2) func25 (fun W S => C.l_eqIntS W hv8_2 ((s_own 3).out W S) ((s_ownO 1).out W S))) ?_
  refine p 2 ?_
  refine br (!v8_2) (fun q2 => ?_) (fun q2 => ?_)
  · replace h := H.t q2 h
    refine o_set 41 (congrArg Value.bool q2) ?_
    refine p 9 ?_
    refine rend ?_
    refine c_t (by kernel_rfl) ?_
    refine c_seq ?_
    refine r_start ?_
    refine p 1 ?_
    refine rend ?_
    replace h := H.done h
    subst h
    exact ret func5 rfl (vs := [.bool false]) (.tmp (by kernel_rfl) .nil) rfl (fun W S => ⟨rfl, S.below⟩)
  replace h := H.f q2 h
  refine o_set 41 (congrArg Value.bool q2) ?_
  refine p 5 ?_
  refine br (v7_1.2.1 != v5_2.2.1) (fun q3 => ?_) (fun q3 => ?_)
  · replace h := H.t q3 h
    refine o_set 46 (congrArg Value.bool q3) ?_
    refine p 4 ?_
    refine rend ?_
    refine c_t (by kernel_rfl) ?_
    refine c_seq ?_
    refine r_start ?_
    refine p 1 ?_
    refine rend ?_
    replace h := H.done h
    subst h
    exact ret func5 rfl (vs := [.bool false]) (.tmp (by kernel_rfl) .nil) rfl (fun W S => ⟨rfl, S.below⟩)
  replace h := H.f q3 h
  refine o_set 46 (congrArg Value.bool q3) ?_
  refine p 4 ?_
  refine rend ?_
  refine c_or (!(v7_1.2.2 == v5_2.2.2)) (fun q4 => ?_) (fun q4 => ?_)
  · replace h := H.t q4 h
    refine c_seq ?_
    refine r_start ?_
    refine p 1 ?_
    refine rend ?_
    replace h := H.done h
    subst h
    exact ret func5 rfl (vs := [.bool false]) (.tmp (by kernel_rfl) .nil) rfl (fun W S => ⟨rfl, S.below⟩)
  replace h := H.f q4 h
  refine c_skip ?_
  refine c_seq ?_
  refine c_seq ?_
  refine r_start ?_
  refine p 2 ?_
  obtain ⟨v10_2, hv10_2, h⟩ := H.call h
  refine xx rfl (e_cr [.slice A0 (List.length a0) k0] (fun v => v) func24 (fun W S => C.l_toSignS W hv10_2 ((s_arg h0).out W S)) fun A10_2 k10_2 => ?_)
  obtain ⟨v10_3, hv10_3, h⟩ := H.call h
  refine xq rfl (y_call [.slice A6_1 (List.length v6_1) k6_1, .slice A10_2 (List.length v10_2) k10_2] (.bool v10_3) func26 (fun W S => C.l_eqSignS W hv10_3 ((s_own 2).out W S) ((s_own 4).out W S))) ?_
  refine p 1 ?_
  refine rend ?_
  refine c_or (!v10_3) (fun q5 => ?_) (fun q5 => ?_)
  · replace h := H.t q5 h
    refine c_seq ?_
    refine r_start ?_
    refine p 1 ?_
    refine rend ?_
    replace h := H.done h
    subst h
    exact ret func5 rfl (vs := [.bool false]) (.tmp (by kernel_rfl) .nil) rfl (fun W S => ⟨rfl, S.below⟩)
  replace h := H.f q5 h
  refine c_skip ?_
  refine c_seq ?_
  refine r_start ?_
  refine p 1 ?_
  refine rend ?_
  refine c_seq ?_
  refine r_start ?_
  refine p 2 ?_
  obtain ⟨v13_2, hv13_2, h⟩ := H.call h
  refine xx rfl (e_cw (e := nSign) (l' := v13_2.2) (v := .int .i64 v13_2.1) 2 [.slice A6_1 (List.length v6_1) k6_1, .int .i64 1] func27 (fun W S => C.l_markSignS W hv13_2 rfl (S.row 2)) fun hl13_2 => ?_)
  refine o_set 7 (sl_len (A := A6_1) (c := k6_1) hl13_2) ?_
  refine p 1 ?_
  refine rend ?_
  refine c_seq ?_
  refine c_seq ?_
  refine r_start ?_
  refine p 3 ?_
  refine br (decide (v13_2.1 < 0)) (fun q6 => ?_) (fun q6 => ?_)
  · replace h := H.t q6 h
    refine o_set 61 (congrArg Value.bool q6) ?_
    refine p 15 ?_
    refine rend ?_
    refine frg (fun u => (.slice A0 (List.length a0) k0 :: (jk u 1 3 (.slice A5_2 (List.length v5_2.1) k5_2 :: .int .i64 v5_2.2.1 :: .bool v5_2.2.2 :: (jk u 7 1 (.slice A7_1 (List.length v7_1.1) k7_1 :: (jk u 9 67 (.bool true :: (jk u 77 40 []))))))))) (by kernel_rfl) fun u => ?_
    refine keep 5 (its' := [rowT nSign w.heap.size 46 (.slice A5_1 (List.length v5_1) k5_1) v5_1, rdO (eI .i64) (.slice A5_2 (List.length v5_2.1) k5_2) v5_2.1, rowT nSign w.heap.size 46 (.slice A6_1 (List.length v13_2.2) k6_1) v13_2.2, rowT (eI .i64) w.heap.size 3 (.slice A7_1 (List.length v7_1.1) k7_1) v7_1.1, rowT nSign w.heap.size 46 (.slice A10_2 (List.length v10_2) k10_2) v10_2]) (by kernel_rfl) ?_
    refine c_t (by kernel_rfl) ?_
    refine c_seq ?_
    refine r_start ?_
    refine p 1 ?_
    refine rend ?_
    replace h := H.done h
    subst h
    exact ret func5 rfl (vs := [.bool false]) (.tmp (by kernel_rfl) .nil) rfl (fun W S => ⟨rfl, S.below⟩)
  replace h := H.f q6 h
  refine o_set 61 (congrArg Value.bool q6) ?_
  refine p 2 ?_
  obtain ⟨v14_5, hv14_5, h⟩ := H.call h
  refine xq rfl (y_call [.slice A7_1 (List.length v7_1.1) k7_1, .slice A5_2 (List.length v5_2.1) k5_2] (.bool v14_5) func25 (fun W S => C.l_eqIntS W hv14_5 ((s_own 3).out W S) ((s_ownO 1).out W S))) ?_
  refine p 3 ?_
  refine br (!v14_5) (fun q7 => ?_) (fun q7 => ?_)
  · replace h := H.t q7 h
    refine o_set 67 (congrArg Value.bool q7) ?_
    refine p 9 ?_
    refine rend ?_
    refine frg (fun u => (.slice A0 (List.length a0) k0 :: (jk u 1 3 (.slice A5_2 (List.length v5_2.1) k5_2 :: .int .i64 v5_2.2.1 :: .bool v5_2.2.2 :: (jk u 7 1 (.slice A7_1 (List.length v7_1.1) k7_1 :: (jk u 9 67 (.bool true :: (jk u 77 40 []))))))))) (by kernel_rfl) fun u => ?_
    refine keep 5 (its' := [rowT nSign w.heap.size 46 (.slice A5_1 (List.length v5_1) k5_1) v5_1, rdO (eI .i64) (.slice A5_2 (List.length v5_2.1) k5_2) v5_2.1, rowT nSign w.heap.size 46 (.slice A6_1 (List.length v13_2.2) k6_1) v13_2.2, rowT (eI .i64) w.heap.size 3 (.slice A7_1 (List.length v7_1.1) k7_1) v7_1.1, rowT nSign w.heap.size 46 (.slice A10_2 (List.length v10_2) k10_2) v10_2]) (by kernel_rfl) ?_
    refine c_t (by kernel_rfl) ?_
    refine c_seq ?_
    refine r_start ?_
    refine p 1 ?_
    refine rend ?_
    replace h := H.done h
    subst h
    exact ret func5 rfl (vs := [.bool false]) (.tmp (by kernel_rfl) .nil) rfl (fun W S => ⟨rfl, S.below⟩)
  replace h := H.f q7 h
  refine o_set 67 (congrArg Value.bool q7) ?_
  refine p 5 ?_
  refine o_set 72 (congrArg Value.bool q3) ?_
  refine p 4 ?_
  refine rend ?_
  refine frg (fun u => (.slice A0 (List.length a0) k0 :: (jk u 1 3 (.slice A5_2 (List.length v5_2.1) k5_2 :: .int .i64 v5_2.2.1 :: .bool v5_2.2.2 :: (jk u 7 1 (.slice A7_1 (List.length v7_1.1) k7_1 :: (jk u 9 67 (.bool (!(v7_1.2.2 == v5_2.2.2)) :: (jk u 77 40 []))))))))) (by kernel_rfl) fun u => ?_
  refine keep 5 (its' := [rowT nSign w.heap.size 46 (.slice A5_1 (List.length v5_1) k5_1) v5_1, rdO (eI .i64) (.slice A5_2 (List.length v5_2.1) k5_2) v5_2.1, rowT nSign w.heap.size 46 (.slice A6_1 (List.length v13_2.2) k6_1) v13_2.2, rowT (eI .i64) w.heap.size 3 (.slice A7_1 (List.length v7_1.1) k7_1) v7_1.1, rowT nSign w.heap.size 46 (.slice A10_2 (List.length v10_2) k10_2) v10_2]) (by kernel_rfl) ?_
  refine c_no q4 ?_
  refine c_skip ?_
  refine c_seq ?_
  refine r_start ?_
  refine p 1 ?_
  refine rend ?_
  refine c_seq ?_
  refine r_start ?_
  refine p 2 ?_
  obtain ⟨v17_2, hv17_2, h⟩ := H.call h
  refine xx rfl (e_cw (e := (eI .i64)) (l' := v17_2.2) (v := .int .i64 v17_2.1) 3 [.slice A7_1 (List.length v7_1.1) k7_1, .int .i64 1] func28 (fun W S => C.l_markIntS W hv17_2 rfl (S.row 3)) fun hl17_2 => ?_)
  refine o_set 8 (sl_len (A := A7_1) (c := k7_1) hl17_2) ?_
  refine p 1 ?_
  refine rend ?_
  refine c_seq ?_
  refine r_start ?_
  refine p 1 ?_
  refine rend ?_
  refine c_seq ?_
  refine r_start ?_
  refine p 2 ?_
  obtain ⟨v19_2, hv19_2, h⟩ := H.call h
  refine xq rfl (y_call [.slice A7_1 (List.length v17_2.2) k7_1, .int .i64 1] (.int .i64 v19_2) func29 (fun W S => C.l_heldIntS W hv19_2 ((s_own 3).out W S))) ?_
  refine p 1 ?_
  refine rend ?_
  refine c_seq ?_
  refine c_seq ?_
  refine r_start ?_
  refine p 2 ?_
  refine rend ?_
  refine c_or (decide (v19_2 < 0)) (fun q8 => ?_) (fun q8 => ?_)
  · replace h := H.t q8 h
    refine c_seq ?_
    refine r_start ?_
    refine p 1 ?_
    refine rend ?_
    replace h := H.done h
    subst h
    exact ret func5 rfl (vs := [.bool false]) (.tmp (by kernel_rfl) .nil) rfl (fun W S => ⟨rfl, S.below⟩)
  replace h := H.f q8 h
  refine c_skip ?_
  refine c_seq ?_
  refine c_seq ?_
  refine r_start ?_
  refine p 3 ?_
  refine rend ?_
  refine c_or (v19_2 != v17_2.1) (fun q9 => ?_) (fun q9 => ?_)
  · replace h := H.t q9 h
    refine c_seq ?_
    refine r_start ?_
    refine p 1 ?_
    refine rend ?_
    replace h := H.done h
    subst h
    exact ret func5 rfl (vs := [.bool false]) (.tmp (by kernel_rfl) .nil) rfl (fun W S => ⟨rfl, S.below⟩)
  replace h := H.f q9 h
  refine c_skip ?_
  refine c_seq ?_
  refine r_start ?_
  refine p 1 ?_
  obtain ⟨v24_1, hv24_1, h⟩ := H.call h
  refine xx rfl (e_cr [.slice A0 (List.length a0) k0] (fun v => v) func24 (fun W S => C.l_toSignS W hv24_1 ((s_arg h0).out W S)) fun A24_1 k24_1 => ?_)
  obtain ⟨v24_2, hv24_2, h⟩ := H.call h
  refine xx rfl (e_cr [.slice A24_1 (List.length v24_1) k24_1] (fun v => .tuple #[v, .int .i64 v24_2.2.1, .bool v24_2.2.2]) func9 (fun W S => C.i_SmoothestOrder W hv24_2 ((s_own 5).out W S)) fun A24_2 k24_2 => ?_)
  refine p 7 ?_
  refine rend ?_
  refine c_seq ?_
  refine c_seq ?_
  refine r_start ?_
  refine p 2 ?_
  obtain ⟨v25_2, hv25_2, h⟩ := H.call h
  refine xq rfl (y_call [.slice A24_2 (List.length v24_2.1) k24_2, .slice A5_2 (List.length v5_2.1) k5_2] (.bool v25_2) func25 (fun W S => C.l_eqIntS W hv25_2 ((s_own 6).out W S) ((s_ownO 1).out W S))) ?_
  refine p 2 ?_
  refine br (!v25_2) (fun q10 => ?_) (fun q10 => ?_)
  · replace h := H.t q10 h
    refine o_set 99 (congrArg Value.bool q10) ?_
    refine p 9 ?_
    refine rend ?_
    refine c_t (by kernel_rfl) ?_
    refine c_seq ?_
    refine r_start ?_
    refine p 1 ?_
    refine rend ?_
    replace h := H.done h
    subst h
    exact ret func5 rfl (vs := [.bool false]) (.tmp (by kernel_rfl) .nil) rfl (fun W S => ⟨rfl, S.below⟩)
  replace h := H.f q10 h
  refine o_set 99 (congrArg Value.bool q10) ?_
  refine p 5 ?_
  refine br (v24_2.2.1 != v5_2.2.1) (fun q11 => ?_) (fun q11 => ?_)
  · replace h := H.t q11 h
    refine o_set 104 (congrArg Value.bool q11) ?_
    refine p 4 ?_
    refine rend ?_
    refine c_t (by kernel_rfl) ?_
    refine c_seq ?_
    refine r_start ?_
    refine p 1 ?_
    refine rend ?_
    replace h := H.done h
    subst h
    exact ret func5 rfl (vs := [.bool false]) (.tmp (by kernel_rfl) .nil) rfl (fun W S => ⟨rfl, S.below⟩)
  replace h := H.f q11 h
  refine o_set 104 (congrArg Value.bool q11) ?_
  refine p 4 ?_
  refine rend ?_
  refine c_or (!(v24_2.2.2 == v5_2.2.2)) (fun q12 => ?_) (fun q12 => ?_)
  · replace h := H.t q12 h
    refine c_seq ?_
    refine r_start ?_
    refine p 1 ?_
    refine rend ?_
    replace h := H.done h
    subst h
    exact ret func5 rfl (vs := [.bool false]) (.tmp (by kernel_rfl) .nil) rfl (fun W S => ⟨rfl, S.below⟩)
  replace h := H.f q12 h
  refine c_skip ?_
  refine c_seq ?_
  refine r_start ?_
  refine p 1 ?_
  refine rend ?_
  refine c_seq ?_
  refine r_start ?_
  refine p 2 ?_
  obtain ⟨v28_2, hv28_2, h⟩ := H.call h
  refine xq rfl (y_call [.slice A7_1 (List.length v17_2.2) k7_1, .int .i64 1] (.int .i64 v28_2) func29 (fun W S => C.l_heldIntS W hv28_2 ((s_own 3).out W S))) ?_
  refine p 1 ?_
  refine rend ?_
  refine c_seq ?_
  refine c_seq ?_
  refine r_start ?_
  refine p 2 ?_
  refine rend ?_
  refine c_or (decide (v28_2 < 0)) (fun q13 => ?_) (fun q13 => ?_)
  · replace h := H.t q13 h
    refine c_seq ?_
    refine r_start ?_
    refine p 1 ?_
    refine rend ?_
    refine frg (fun u => (jk u 0 2 (.bool false :: (jk u 3 114 [])))) (by kernel_rfl) fun u => ?_
    refine keep 7 (its' := [rowT nSign w.heap.size 46 (.slice A5_1 (List.length v5_1) k5_1) v5_1, rdO (eI .i64) (.slice A5_2 (List.length v5_2.1) k5_2) v5_2.1, rowT nSign w.heap.size 46 (.slice A6_1 (List.length v13_2.2) k6_1) v13_2.2, rowT (eI .i64) w.heap.size 3 (.slice A7_1 (List.length v17_2.2) k7_1) v17_2.2, rowT nSign w.heap.size 46 (.slice A10_2 (List.length v10_2) k10_2) v10_2, rowT nSign w.heap.size 46 (.slice A24_1 (List.length v24_1) k24_1) v24_1, rowT (eI .i64) w.heap.size 3 (.slice A24_2 (List.length v24_2.1) k24_2) v24_2.1]) (by kernel_rfl) ?_
    replace h := H.done h
    subst h
    exact ret func5 rfl (vs := [.bool false]) (.tmp (by kernel_rfl) .nil) rfl (fun W S => ⟨rfl, S.below⟩)
  replace h := H.f q13 h
  refine c_skip ?_
  refine c_seq ?_
  refine c_seq ?_
  refine r_start ?_
  refine p 3 ?_
  refine rend ?_
  refine frg (fun u => (jk u 0 116 [.bool (v28_2 != v17_2.1)])) (by kernel_rfl) fun u => ?_
  refine keep 7 (its' := [rowT nSign w.heap.size 46 (.slice A5_1 (List.length v5_1) k5_1) v5_1, rdO (eI .i64) (.slice A5_2 (List.length v5_2.1) k5_2) v5_2.1, rowT nSign w.heap.size 46 (.slice A6_1 (List.length v13_2.2) k6_1) v13_2.2, rowT (eI .i64) w.heap.size 3 (.slice A7_1 (List.length v17_2.2) k7_1) v17_2.2, rowT nSign w.heap.size 46 (.slice A10_2 (List.length v10_2) k10_2) v10_2, rowT nSign w.heap.size 46 (.slice A24_1 (List.length v24_1) k24_1) v24_1, rowT (eI .i64) w.heap.size 3 (.slice A24_2 (List.length v24_2.1) k24_2) v24_2.1]) (by kernel_rfl) ?_
  refine c_or (v28_2 != v17_2.1) (fun q14 => ?_) (fun q14 => ?_)
  · replace h := H.t q14 h
    refine c_seq ?_
    refine r_start ?_
    refine p 1 ?_
    refine rend ?_
    replace h := H.done h
    subst h
    exact ret func5 rfl (vs := [.bool false]) (.tmp (by kernel_rfl) .nil) rfl (fun W S => ⟨rfl, S.below⟩)
  replace h := H.f q14 h
  refine c_skip ?_
  refine c_seq ?_
  refine r_start ?_
  refine p 1 ?_
  refine rend ?_
  replace h := H.done h
  subst h
  exact ret func5 rfl (vs := [.bool true]) (.tmp (by kernel_rfl) .nil) rfl (fun W S => ⟨rfl, S.below⟩)
end Go.Proofs.XC
