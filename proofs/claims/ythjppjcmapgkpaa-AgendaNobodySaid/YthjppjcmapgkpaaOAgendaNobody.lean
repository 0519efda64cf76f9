/- AgendaNobody: the arguments of the statement opened into plain values; the pure statement. Written by genlaw.py of this repo. -/
import Derived.Test.YthjppjcmapgkpaaLO
import Derived.Test.YthjppjcmapgkpaaUUAg
namespace Go.Proofs.Ythjppjcmapgkpaa.OAgendaNobody
open Go.RowKit Go.ChangeShapes Go.WideShapes Go.ChangeAt Go.Proofs.YthjppjcmapgkpaaW.PrintWords Go.Proofs.Ythjppjcmapgkpaa.LO Go.Proofs.Ythjppjcmapgkpaa.QAg
set_option linter.unusedVariables false
theorem cells3 : Try.prog.cellsOf 3 = 1 := by kernel_rfl
theorem op_3 : Opens Try.prog 3 (Kd.int .i64) (fun n : Int => (Lit.int .i64 n).wf = true) := opens_int Try.underlying3
theorem cells25 : Try.prog.cellsOf 25 = 1 := by kernel_rfl
theorem op_25 : Opens Try.prog 25 (Kd.int .i8) (fun n : Int => (Lit.int .i8 n).wf = true) := opens_int Try.underlying25
theorem cells27 : Try.prog.cellsOf 27 = 2 := by kernel_rfl
def B27 (x : S27) : Prop := (fun n : Int => (Lit.int .i8 n).wf = true) x.f0 ∧ (fun n : Int => (Lit.int .i64 n).wf = true) x.f1
theorem op_27 : Opens Try.prog 27 k27 B27 := by
  intro H enc W fuel cs x h hw
  obtain ⟨xs, n, _, rfl, hl, hxl, hf⟩ := DataW.trod_struct Try.underlying27 h
  have hl' : cs.length = 2 := hl.trans cells27
  have g0 : xs.length = 2 := hxl
  obtain ⟨y0, xs0, rfl, g1⟩ := len_succ g0
  obtain ⟨y1, xs1, rfl, g2⟩ := len_succ g1
  obtain rfl := len_zero g2
  simp only [DataW.weights, Try.underlying27] at hw
  have e0 : DataW.trod enc Try.prog W 0 (fun _ => true) true n 25 ((cs.drop 0).take (Try.prog.cellsOf 25)) = some y0 := hf 0 _ rfl
  rw [cells25] at e0
  have w0 := each_cons (t := 25) (d := y0.1) hw
  obtain ⟨a0, K0, b0⟩ := op_25 H enc W n _ _ e0 w0.1
  have e1 : DataW.trod enc Try.prog W 0 (fun _ => true) true n 3 ((cs.drop 1).take (Try.prog.cellsOf 3)) = some y1 := hf 1 _ rfl
  rw [cells3] at e1
  have w1 := each_cons (t := 3) (d := y1.1) w0.2
  obtain ⟨a1, K1, b1⟩ := op_3 H enc W n _ _ e1 w1.1
  refine ⟨⟨a0, a1⟩, ?_, ⟨b0, b1⟩⟩
  rw [cutl cs 1 1 hl'] at K1
  exact ⟨_, _, cut0 cs 1, K0, K1⟩
theorem cells35 : Try.prog.cellsOf 35 = 5 := by kernel_rfl
def B35 (x : S35) : Prop := (fun n : Int => (Lit.int .i64 n).wf = true) x.f0 ∧ B27 x.f1 ∧ (fun n : Int => (Lit.int .i64 n).wf = true) x.f2 ∧ (fun n : Int => (Lit.int .i64 n).wf = true) x.f3
theorem op_35 : Opens Try.prog 35 k35 B35 := by
  intro H enc W fuel cs x h hw
  obtain ⟨xs, n, _, rfl, hl, hxl, hf⟩ := DataW.trod_struct Try.underlying35 h
  have hl' : cs.length = 5 := hl.trans cells35
  have g0 : xs.length = 4 := hxl
  obtain ⟨y0, xs0, rfl, g1⟩ := len_succ g0
  obtain ⟨y1, xs1, rfl, g2⟩ := len_succ g1
  obtain ⟨y2, xs2, rfl, g3⟩ := len_succ g2
  obtain ⟨y3, xs3, rfl, g4⟩ := len_succ g3
  obtain rfl := len_zero g4
  simp only [DataW.weights, Try.underlying35] at hw
  have e0 : DataW.trod enc Try.prog W 0 (fun _ => true) true n 3 ((cs.drop 0).take (Try.prog.cellsOf 3)) = some y0 := hf 0 _ rfl
  rw [cells3] at e0
  have w0 := each_cons (t := 3) (d := y0.1) hw
  obtain ⟨a0, K0, b0⟩ := op_3 H enc W n _ _ e0 w0.1
  have e1 : DataW.trod enc Try.prog W 0 (fun _ => true) true n 27 ((cs.drop 1).take (Try.prog.cellsOf 27)) = some y1 := hf 1 _ rfl
  rw [cells27] at e1
  have w1 := each_cons (t := 27) (d := y1.1) w0.2
  obtain ⟨a1, K1, b1⟩ := op_27 H enc W n _ _ e1 w1.1
  have e2 : DataW.trod enc Try.prog W 0 (fun _ => true) true n 3 ((cs.drop 3).take (Try.prog.cellsOf 3)) = some y2 := hf 2 _ rfl
  rw [cells3] at e2
  have w2 := each_cons (t := 3) (d := y2.1) w1.2
  obtain ⟨a2, K2, b2⟩ := op_3 H enc W n _ _ e2 w2.1
  have e3 : DataW.trod enc Try.prog W 0 (fun _ => true) true n 3 ((cs.drop 4).take (Try.prog.cellsOf 3)) = some y3 := hf 3 _ rfl
  rw [cells3] at e3
  have w3 := each_cons (t := 3) (d := y3.1) w2.2
  obtain ⟨a3, K3, b3⟩ := op_3 H enc W n _ _ e3 w3.1
  refine ⟨⟨a0, a1, a2, a3⟩, ?_, ⟨b0, b1, b2, b3⟩⟩
  rw [cutl cs 4 1 hl'] at K3
  exact ⟨_, _, cut0 cs 1, K0, ⟨_, _, cut cs 1 2 3 rfl, K1, ⟨_, _, cut cs 3 1 4 rfl, K2, K3⟩⟩⟩
end Go.Proofs.Ythjppjcmapgkpaa.OAgendaNobody
