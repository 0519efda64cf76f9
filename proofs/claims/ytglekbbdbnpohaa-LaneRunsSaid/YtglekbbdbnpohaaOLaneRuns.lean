/- LaneRuns: the arguments of the statement opened into plain values; the pure statement. Written by genlaw.py of this repo. -/
import Derived.Test.YtglekbbdbnpohaaLO
import Derived.Test.YtglekbbdbnpohaaZ6Ln
namespace Go.Proofs.Ytglekbbdbnpohaa.OLaneRuns
open Go.RowKit Go.ChangeShapes Go.WideShapes Go.ChangeAt Go.Proofs.YtglekbbdbnpohaaW.PrintWords Go.Proofs.Ytglekbbdbnpohaa.LO Go.Proofs.Ytglekbbdbnpohaa.QLn
set_option linter.unusedVariables false
theorem cells3 : Try.prog.cellsOf 3 = 1 := by kernel_rfl
theorem op_3 : Opens Try.prog 3 (Kd.int .i64) (fun n : Int => (Lit.int .i64 n).wf = true) := opens_int Try.underlying3
theorem cells4 : Try.prog.cellsOf 4 = 1 := by kernel_rfl
theorem op_4 : Opens Try.prog 4 Kd.bool (fun _ : Bool => True) := opens_bool Try.underlying4
theorem cells22 : Try.prog.cellsOf 22 = 1 := by kernel_rfl
theorem op_22 : Opens Try.prog 22 (Kd.int .u64) (fun n : Int => (Lit.int .u64 n).wf = true) := opens_int Try.underlying22
theorem cells34 : Try.prog.cellsOf 34 = 2 := by kernel_rfl
def B34 (x : S34) : Prop := (fun n : Int => (Lit.int .u64 n).wf = true) x.f0 ∧ (fun n : Int => (Lit.int .u64 n).wf = true) x.f1
theorem op_34 : Opens Try.prog 34 k34 B34 := by
  intro H enc W fuel cs x h hw
  obtain ⟨xs, n, _, rfl, hl, hxl, hf⟩ := DataW.trod_struct Try.underlying34 h
  have hl' : cs.length = 2 := hl.trans cells34
  have g0 : xs.length = 2 := hxl
  obtain ⟨y0, xs0, rfl, g1⟩ := len_succ g0
  obtain ⟨y1, xs1, rfl, g2⟩ := len_succ g1
  obtain rfl := len_zero g2
  simp only [DataW.weights, Try.underlying34] at hw
  have e0 : DataW.trod enc Try.prog W 0 (fun _ => true) true n 22 ((cs.drop 0).take (Try.prog.cellsOf 22)) = some y0 := hf 0 _ rfl
  rw [cells22] at e0
  have w0 := each_cons (t := 22) (d := y0.1) hw
  obtain ⟨a0, K0, b0⟩ := op_22 H enc W n _ _ e0 w0.1
  have e1 : DataW.trod enc Try.prog W 0 (fun _ => true) true n 22 ((cs.drop 1).take (Try.prog.cellsOf 22)) = some y1 := hf 1 _ rfl
  rw [cells22] at e1
  have w1 := each_cons (t := 22) (d := y1.1) w0.2
  obtain ⟨a1, K1, b1⟩ := op_22 H enc W n _ _ e1 w1.1
  refine ⟨⟨a0, a1⟩, ?_, ⟨b0, b1⟩⟩
  rw [cutl cs 1 1 hl'] at K1
  exact ⟨_, _, cut0 cs 1, K0, K1⟩
theorem cells36 : Try.prog.cellsOf 36 = 2 := by kernel_rfl
def B36 (x : S36) : Prop := (fun n : Int => (Lit.int .i64 n).wf = true) x.f0 ∧ (fun n : Int => (Lit.int .u64 n).wf = true) x.f1
theorem op_36 : Opens Try.prog 36 k36 B36 := by
  intro H enc W fuel cs x h hw
  obtain ⟨xs, n, _, rfl, hl, hxl, hf⟩ := DataW.trod_struct Try.underlying36 h
  have hl' : cs.length = 2 := hl.trans cells36
  have g0 : xs.length = 2 := hxl
  obtain ⟨y0, xs0, rfl, g1⟩ := len_succ g0
  obtain ⟨y1, xs1, rfl, g2⟩ := len_succ g1
  obtain rfl := len_zero g2
  simp only [DataW.weights, Try.underlying36] at hw
  have e0 : DataW.trod enc Try.prog W 0 (fun _ => true) true n 3 ((cs.drop 0).take (Try.prog.cellsOf 3)) = some y0 := hf 0 _ rfl
  rw [cells3] at e0
  have w0 := each_cons (t := 3) (d := y0.1) hw
  obtain ⟨a0, K0, b0⟩ := op_3 H enc W n _ _ e0 w0.1
  have e1 : DataW.trod enc Try.prog W 0 (fun _ => true) true n 22 ((cs.drop 1).take (Try.prog.cellsOf 22)) = some y1 := hf 1 _ rfl
  rw [cells22] at e1
  have w1 := each_cons (t := 22) (d := y1.1) w0.2
  obtain ⟨a1, K1, b1⟩ := op_22 H enc W n _ _ e1 w1.1
  refine ⟨⟨a0, a1⟩, ?_, ⟨b0, b1⟩⟩
  rw [cutl cs 1 1 hl'] at K1
  exact ⟨_, _, cut0 cs 1, K0, K1⟩
theorem cells38 : Try.prog.cellsOf 38 = 2 := by kernel_rfl
def B38 (x : S38) : Prop := (fun n : Int => (Lit.int .i64 n).wf = true) x.f0 ∧ (fun n : Int => (Lit.int .i64 n).wf = true) x.f1
theorem op_38 : Opens Try.prog 38 k38 B38 := by
  intro H enc W fuel cs x h hw
  obtain ⟨xs, n, _, rfl, hl, hxl, hf⟩ := DataW.trod_struct Try.underlying38 h
  have hl' : cs.length = 2 := hl.trans cells38
  have g0 : xs.length = 2 := hxl
  obtain ⟨y0, xs0, rfl, g1⟩ := len_succ g0
  obtain ⟨y1, xs1, rfl, g2⟩ := len_succ g1
  obtain rfl := len_zero g2
  simp only [DataW.weights, Try.underlying38] at hw
  have e0 : DataW.trod enc Try.prog W 0 (fun _ => true) true n 3 ((cs.drop 0).take (Try.prog.cellsOf 3)) = some y0 := hf 0 _ rfl
  rw [cells3] at e0
  have w0 := each_cons (t := 3) (d := y0.1) hw
  obtain ⟨a0, K0, b0⟩ := op_3 H enc W n _ _ e0 w0.1
  have e1 : DataW.trod enc Try.prog W 0 (fun _ => true) true n 3 ((cs.drop 1).take (Try.prog.cellsOf 3)) = some y1 := hf 1 _ rfl
  rw [cells3] at e1
  have w1 := each_cons (t := 3) (d := y1.1) w0.2
  obtain ⟨a1, K1, b1⟩ := op_3 H enc W n _ _ e1 w1.1
  refine ⟨⟨a0, a1⟩, ?_, ⟨b0, b1⟩⟩
  rw [cutl cs 1 1 hl'] at K1
  exact ⟨_, _, cut0 cs 1, K0, K1⟩
theorem cells40 : Try.prog.cellsOf 40 = 7 := by kernel_rfl
def B40 (x : S40) : Prop := (fun n : Int => (Lit.int .i64 n).wf = true) x.f0 ∧ B34 x.f1 ∧ B36 x.f2 ∧ B38 x.f3
theorem op_40 : Opens Try.prog 40 k40 B40 := by
  intro H enc W fuel cs x h hw
  obtain ⟨xs, n, _, rfl, hl, hxl, hf⟩ := DataW.trod_struct Try.underlying40 h
  have hl' : cs.length = 7 := hl.trans cells40
  have g0 : xs.length = 4 := hxl
  obtain ⟨y0, xs0, rfl, g1⟩ := len_succ g0
  obtain ⟨y1, xs1, rfl, g2⟩ := len_succ g1
  obtain ⟨y2, xs2, rfl, g3⟩ := len_succ g2
  obtain ⟨y3, xs3, rfl, g4⟩ := len_succ g3
  obtain rfl := len_zero g4
  simp only [DataW.weights, Try.underlying40] at hw
  have e0 : DataW.trod enc Try.prog W 0 (fun _ => true) true n 3 ((cs.drop 0).take (Try.prog.cellsOf 3)) = some y0 := hf 0 _ rfl
  rw [cells3] at e0
  have w0 := each_cons (t := 3) (d := y0.1) hw
  obtain ⟨a0, K0, b0⟩ := op_3 H enc W n _ _ e0 w0.1
  have e1 : DataW.trod enc Try.prog W 0 (fun _ => true) true n 34 ((cs.drop 1).take (Try.prog.cellsOf 34)) = some y1 := hf 1 _ rfl
  rw [cells34] at e1
  have w1 := each_cons (t := 34) (d := y1.1) w0.2
  obtain ⟨a1, K1, b1⟩ := op_34 H enc W n _ _ e1 w1.1
  have e2 : DataW.trod enc Try.prog W 0 (fun _ => true) true n 36 ((cs.drop 3).take (Try.prog.cellsOf 36)) = some y2 := hf 2 _ rfl
  rw [cells36] at e2
  have w2 := each_cons (t := 36) (d := y2.1) w1.2
  obtain ⟨a2, K2, b2⟩ := op_36 H enc W n _ _ e2 w2.1
  have e3 : DataW.trod enc Try.prog W 0 (fun _ => true) true n 38 ((cs.drop 5).take (Try.prog.cellsOf 38)) = some y3 := hf 3 _ rfl
  rw [cells38] at e3
  have w3 := each_cons (t := 38) (d := y3.1) w2.2
  obtain ⟨a3, K3, b3⟩ := op_38 H enc W n _ _ e3 w3.1
  refine ⟨⟨a0, a1, a2, a3⟩, ?_, ⟨b0, b1, b2, b3⟩⟩
  rw [cutl cs 5 2 hl'] at K3
  exact ⟨_, _, cut0 cs 1, K0, ⟨_, _, cut cs 1 2 3 rfl, K1, ⟨_, _, cut cs 3 2 5 rfl, K2, K3⟩⟩⟩
theorem cells23 : Try.prog.cellsOf 23 = 1 := by kernel_rfl
theorem op_23 : Opens Try.prog 23 (Kd.slice 40 k40) (fun l : List S40 => l.length * 56 ≤ 140737488351232 ∧ ∀ x ∈ l, B40 x) := opens_slice (B := 56) Try.underlying23 (cells40.trans rfl) (by kernel_rfl) op_40
end Go.Proofs.Ytglekbbdbnpohaa.OLaneRuns
