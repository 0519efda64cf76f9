/- FrameTells: the arguments of the statement opened into plain values; the pure statement. Written by genlaw.py of this repo. -/
import Derived.Test.YtmfmliblieemiaaLO
import Derived.Test.YtmfmliblieemiaaWT2Fr
namespace Go.Proofs.Ytmfmliblieemiaa.OFrameTells
open Go.RowKit Go.ChangeShapes Go.WideShapes Go.ChangeAt Go.Proofs.YtmfmliblieemiaaW.PrintWords Go.Proofs.Ytmfmliblieemiaa.LO Go.Proofs.Ytmfmliblieemiaa.QFr
set_option linter.unusedVariables false
theorem cells3 : Try.prog.cellsOf 3 = 1 := by kernel_rfl
theorem op_3 : Opens Try.prog 3 (Kd.int .i64) (fun n : Int => (Lit.int .i64 n).wf = true) := opens_int Try.underlying3
theorem cells22 : Try.prog.cellsOf 22 = 1 := by kernel_rfl
theorem op_22 : Opens Try.prog 22 (Kd.slice 3 (Kd.int .i64)) (fun l : List Int => l.length * 8 ≤ 140737488351232 ∧ ∀ x ∈ l, (fun n : Int => (Lit.int .i64 n).wf = true) x) := opens_slice (B := 8) Try.underlying22 (cells3.trans rfl) (by kernel_rfl) op_3
end Go.Proofs.Ytmfmliblieemiaa.OFrameTells
