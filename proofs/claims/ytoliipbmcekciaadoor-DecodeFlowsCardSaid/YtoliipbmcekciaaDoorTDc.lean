/- Decode: what the rows' condition on the two listed variables gives a walk; a start that meets it. -/
import Derived.Test.YtoliipbmcekciaaDoorRows
import Derived.Test.YtoliipbmcekciaaDoorBDc
import Derived.ProofKit
import Derived.LaidMore
import Derived.OpenShut
import Derived.Stop.Joined
import Derived.ChangeSame
namespace Go.Proofs.YtoliipbmcekciaaDoor.QDc
open Go.RowKit Go.ChangeShapes Go.WideShapes Go.ChangeAt Go.Proofs.YtoliipbmcekciaaDoorW.PrintWords
set_option linter.unusedVariables false

def laidD : List (String × DataW Unit) := [("rampart/wire.handlePart", Rows.laid_rampart_wire_handlePart), ("rampart/wire.payloadPart", Rows.laid_rampart_wire_payloadPart)]
theorem gH : Tryd.prog.globalNamed "rampart/wire.handlePart" = some 0 := by kernel_rfl
theorem gP : Tryd.prog.globalNamed "rampart/wire.payloadPart" = some 1 := by kernel_rfl
theorem tH : (Tryd.prog.globals[0]?).map (·.type) = some 130 := by kernel_rfl
theorem tP : (Tryd.prog.globals[1]?).map (·.type) = some 130 := by kernel_rfl
theorem c3 : Tryd.prog.cellsOf 3 = 1 := by kernel_rfl
theorem c130 : Tryd.prog.cellsOf 130 = 2 := by kernel_rfl
theorem door_met (os : Os) (args : Array Value) : laidMetH Tryd.prog laidD ((World.doorLaid Tryd.prog 19 os).forCall (fun _ _ => 0) ⟨#[], args, []⟩).memory :=
  laidMetH_of_parts3 (fuel := 8) (laidMet_of_run' 8 (by kernel_rfl) (by kernel_rfl)) (by kernel_rfl) (by kernel_rfl)
set_option maxRecDepth 100000 in
theorem two_cells_of {W : World} {fuel : Nat} {cs : List Value} {p : List MemPlace} {x y : Int}
    (hd : DataW.trod (fun _ => ()) Tryd.prog W 0 (fun _ => true) false fuel 130 cs = some (.agg [.lit (.int .i64 x), .lit (.int .i64 y)], p)) : cs = [.int .i64 x, .int .i64 y] := by
  obtain ⟨y0, y1, n, hx, hl, e0, e1⟩ := trod_struct2 Tryd.underlying130 hd
  rw [c130] at hl
  obtain ⟨k0, a0, b0, _⟩ := DataW.trod_int Tryd.underlying3 e0
  obtain ⟨k1, a1, b1, _⟩ := DataW.trod_int Tryd.underlying3 e1
  rw [c3] at a0 a1
  subst b0 b1
  simp only [Prod.mk.injEq, DataW.agg.injEq, List.cons.injEq, DataW.lit.injEq, Lit.int.injEq, true_and, and_true] at hx
  obtain ⟨⟨rfl, rfl⟩, _⟩ := hx
  match cs, hl with
  | [u, v], _ =>
    simp at a0 a1
    rw [a0, a1]
set_option maxRecDepth 100000 in
theorem range_of {W : World} {name : String} {g : Nat} {cs : Array Value} {x y : Int} (hg : Tryd.prog.globalNamed name = some g) (hv : World.var? Tryd.prog W name = some cs) (hc : cs.toList = [.int .i64 x, .int .i64 y]) : W.rangeAt g 0 [.int .i64 x, .int .i64 y] := fun j v hj => by
  have := World.var?_cell hg hv j
  rw [← hc] at hj
  rw [Nat.zero_add, this]
  simpa using hj
set_option maxRecDepth 100000 in
theorem glob_of_laid {W : World} (h : laidMetH Tryd.prog laidD W) : Glob W := by
  rw [MakeChecks.laidMetH_plain _ _ _ (by kernel_rfl)] at h
  obtain ⟨ps, ⟨g0, t0, cs0, f0, p0, q0, hg0, ht0, hv0, hd0, ⟨g1, t1, cs1, f1, p1, q1, hg1, ht1, hv1, hd1, _, _⟩, _⟩, _, _⟩ := h
  obtain rfl := Option.some.inj (gH.symm.trans hg0)
  obtain rfl := Option.some.inj (gP.symm.trans hg1)
  obtain rfl := Option.some.inj (tH.symm.trans ht0)
  obtain rfl := Option.some.inj (tP.symm.trans ht1)
  exact ⟨range_of gH hv0 (two_cells_of hd0), range_of gP hv1 (two_cells_of hd1)⟩
end Go.Proofs.YtoliipbmcekciaaDoor.QDc
