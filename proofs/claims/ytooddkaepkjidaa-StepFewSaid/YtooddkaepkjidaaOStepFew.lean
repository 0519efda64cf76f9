/- StepFew: the arguments of the statement opened into plain values; the pure statement. Written by genlaw.py of this repo. -/
import Derived.Test.YtooddkaepkjidaaLO
import Derived.Test.YtooddkaepkjidaaZSt
import Derived.Test.YtooddkaepkjidaaTSt
namespace Go.Proofs.Ytooddkaepkjidaa.OStepFew
open Go.RowKit Go.ChangeShapes Go.WideShapes Go.ChangeAt Go.Proofs.YtooddkaepkjidaaW.PrintWords Go.Proofs.Ytooddkaepkjidaa.LO Go.Proofs.Ytooddkaepkjidaa.QSt
set_option linter.unusedVariables false
theorem cells3 : Try.prog.cellsOf 3 = 1 := by kernel_rfl
theorem op_3 : Opens Try.prog 3 (Kd.int .i64) (fun n : Int => (Lit.int .i64 n).wf = true) := opens_int Try.underlying3
theorem cells22 : Try.prog.cellsOf 22 = 1 := by kernel_rfl
theorem op_22 : Opens Try.prog 22 (Kd.int .u8) (fun n : Int => (Lit.int .u8 n).wf = true) := opens_int Try.underlying22
theorem cells5 : Try.prog.cellsOf 5 = 1 := by kernel_rfl
theorem op_5 : Opens Try.prog 5 (Kd.int .u8) (fun n : Int => (Lit.int .u8 n).wf = true) := opens_int Try.underlying5
theorem cells23 : Try.prog.cellsOf 23 = 1 := by kernel_rfl
theorem op_23 : Opens Try.prog 23 (Kd.int .u32) (fun n : Int => (Lit.int .u32 n).wf = true) := opens_int Try.underlying23
theorem cells24 : Try.prog.cellsOf 24 = 1 := by kernel_rfl
theorem op_24 : Opens Try.prog 24 (Kd.int .u64) (fun n : Int => (Lit.int .u64 n).wf = true) := opens_int Try.underlying24
theorem cells26 : Try.prog.cellsOf 26 = 5 := by kernel_rfl
def B26 (x : S26) : Prop := (fun n : Int => (Lit.int .u8 n).wf = true) x.f0 ∧ (fun n : Int => (Lit.int .u8 n).wf = true) x.f1 ∧ (fun n : Int => (Lit.int .u8 n).wf = true) x.f2 ∧ (fun n : Int => (Lit.int .u32 n).wf = true) x.f3 ∧ (fun n : Int => (Lit.int .u64 n).wf = true) x.f4
theorem op_26 : Opens Try.prog 26 k26 B26 := by
  intro H enc W fuel cs x h hw
  obtain ⟨xs, n, _, rfl, hl, hxl, hf⟩ := DataW.trod_struct Try.underlying26 h
  have hl' : cs.length = 5 := hl.trans cells26
  have g0 : xs.length = 5 := hxl
  obtain ⟨y0, xs0, rfl, g1⟩ := len_succ g0
  obtain ⟨y1, xs1, rfl, g2⟩ := len_succ g1
  obtain ⟨y2, xs2, rfl, g3⟩ := len_succ g2
  obtain ⟨y3, xs3, rfl, g4⟩ := len_succ g3
  obtain ⟨y4, xs4, rfl, g5⟩ := len_succ g4
  obtain rfl := len_zero g5
  simp only [DataW.weights, Try.underlying26] at hw
  have e0 : DataW.trod enc Try.prog W 0 (fun _ => true) true n 22 ((cs.drop 0).take (Try.prog.cellsOf 22)) = some y0 := hf 0 _ rfl
  rw [cells22] at e0
  have w0 := each_cons (t := 22) (d := y0.1) hw
  obtain ⟨a0, K0, b0⟩ := op_22 H enc W n _ _ e0 w0.1
  have e1 : DataW.trod enc Try.prog W 0 (fun _ => true) true n 5 ((cs.drop 1).take (Try.prog.cellsOf 5)) = some y1 := hf 1 _ rfl
  rw [cells5] at e1
  have w1 := each_cons (t := 5) (d := y1.1) w0.2
  obtain ⟨a1, K1, b1⟩ := op_5 H enc W n _ _ e1 w1.1
  have e2 : DataW.trod enc Try.prog W 0 (fun _ => true) true n 5 ((cs.drop 2).take (Try.prog.cellsOf 5)) = some y2 := hf 2 _ rfl
  rw [cells5] at e2
  have w2 := each_cons (t := 5) (d := y2.1) w1.2
  obtain ⟨a2, K2, b2⟩ := op_5 H enc W n _ _ e2 w2.1
  have e3 : DataW.trod enc Try.prog W 0 (fun _ => true) true n 23 ((cs.drop 3).take (Try.prog.cellsOf 23)) = some y3 := hf 3 _ rfl
  rw [cells23] at e3
  have w3 := each_cons (t := 23) (d := y3.1) w2.2
  obtain ⟨a3, K3, b3⟩ := op_23 H enc W n _ _ e3 w3.1
  have e4 : DataW.trod enc Try.prog W 0 (fun _ => true) true n 24 ((cs.drop 4).take (Try.prog.cellsOf 24)) = some y4 := hf 4 _ rfl
  rw [cells24] at e4
  have w4 := each_cons (t := 24) (d := y4.1) w3.2
  obtain ⟨a4, K4, b4⟩ := op_24 H enc W n _ _ e4 w4.1
  refine ⟨⟨a0, a1, a2, a3, a4⟩, ?_, ⟨b0, b1, b2, b3, b4⟩⟩
  rw [cutl cs 4 1 hl'] at K4
  exact ⟨_, _, cut0 cs 1, K0, ⟨_, _, cut cs 1 1 2 rfl, K1, ⟨_, _, cut cs 2 1 3 rfl, K2, ⟨_, _, cut cs 3 1 4 rfl, K3, K4⟩⟩⟩⟩
theorem cells27 : Try.prog.cellsOf 27 = 1 := by kernel_rfl
theorem op_27 : Opens Try.prog 27 (Kd.int .i64) (fun n : Int => (Lit.int .i64 n).wf = true) := opens_int Try.underlying27
theorem cells29 : Try.prog.cellsOf 29 = 2 := by kernel_rfl
def B29 (x : S29) : Prop := (fun n : Int => (Lit.int .u64 n).wf = true) x.f0 ∧ (fun n : Int => (Lit.int .u64 n).wf = true) x.f1
theorem op_29 : Opens Try.prog 29 k29 B29 := by
  intro H enc W fuel cs x h hw
  obtain ⟨xs, n, _, rfl, hl, hxl, hf⟩ := DataW.trod_struct Try.underlying29 h
  have hl' : cs.length = 2 := hl.trans cells29
  have g0 : xs.length = 2 := hxl
  obtain ⟨y0, xs0, rfl, g1⟩ := len_succ g0
  obtain ⟨y1, xs1, rfl, g2⟩ := len_succ g1
  obtain rfl := len_zero g2
  simp only [DataW.weights, Try.underlying29] at hw
  have e0 : DataW.trod enc Try.prog W 0 (fun _ => true) true n 24 ((cs.drop 0).take (Try.prog.cellsOf 24)) = some y0 := hf 0 _ rfl
  rw [cells24] at e0
  have w0 := each_cons (t := 24) (d := y0.1) hw
  obtain ⟨a0, K0, b0⟩ := op_24 H enc W n _ _ e0 w0.1
  have e1 : DataW.trod enc Try.prog W 0 (fun _ => true) true n 24 ((cs.drop 1).take (Try.prog.cellsOf 24)) = some y1 := hf 1 _ rfl
  rw [cells24] at e1
  have w1 := each_cons (t := 24) (d := y1.1) w0.2
  obtain ⟨a1, K1, b1⟩ := op_24 H enc W n _ _ e1 w1.1
  refine ⟨⟨a0, a1⟩, ?_, ⟨b0, b1⟩⟩
  rw [cutl cs 1 1 hl'] at K1
  exact ⟨_, _, cut0 cs 1, K0, K1⟩
theorem cells31 : Try.prog.cellsOf 31 = 12 := by kernel_rfl
def B31 (x : S31) : Prop := (fun n : Int => (Lit.int .i64 n).wf = true) x.f0 ∧ B26 x.f1 ∧ (fun n : Int => (Lit.int .i64 n).wf = true) x.f2 ∧ (fun n : Int => (Lit.int .i64 n).wf = true) x.f3 ∧ (fun n : Int => (Lit.int .i64 n).wf = true) x.f4 ∧ B29 x.f5 ∧ (fun n : Int => (Lit.int .u64 n).wf = true) x.f6
theorem op_31 : Opens Try.prog 31 k31 B31 := by
  intro H enc W fuel cs x h hw
  obtain ⟨xs, n, _, rfl, hl, hxl, hf⟩ := DataW.trod_struct Try.underlying31 h
  have hl' : cs.length = 12 := hl.trans cells31
  have g0 : xs.length = 7 := hxl
  obtain ⟨y0, xs0, rfl, g1⟩ := len_succ g0
  obtain ⟨y1, xs1, rfl, g2⟩ := len_succ g1
  obtain ⟨y2, xs2, rfl, g3⟩ := len_succ g2
  obtain ⟨y3, xs3, rfl, g4⟩ := len_succ g3
  obtain ⟨y4, xs4, rfl, g5⟩ := len_succ g4
  obtain ⟨y5, xs5, rfl, g6⟩ := len_succ g5
  obtain ⟨y6, xs6, rfl, g7⟩ := len_succ g6
  obtain rfl := len_zero g7
  simp only [DataW.weights, Try.underlying31] at hw
  have e0 : DataW.trod enc Try.prog W 0 (fun _ => true) true n 3 ((cs.drop 0).take (Try.prog.cellsOf 3)) = some y0 := hf 0 _ rfl
  rw [cells3] at e0
  have w0 := each_cons (t := 3) (d := y0.1) hw
  obtain ⟨a0, K0, b0⟩ := op_3 H enc W n _ _ e0 w0.1
  have e1 : DataW.trod enc Try.prog W 0 (fun _ => true) true n 26 ((cs.drop 1).take (Try.prog.cellsOf 26)) = some y1 := hf 1 _ rfl
  rw [cells26] at e1
  have w1 := each_cons (t := 26) (d := y1.1) w0.2
  obtain ⟨a1, K1, b1⟩ := op_26 H enc W n _ _ e1 w1.1
  have e2 : DataW.trod enc Try.prog W 0 (fun _ => true) true n 27 ((cs.drop 6).take (Try.prog.cellsOf 27)) = some y2 := hf 2 _ rfl
  rw [cells27] at e2
  have w2 := each_cons (t := 27) (d := y2.1) w1.2
  obtain ⟨a2, K2, b2⟩ := op_27 H enc W n _ _ e2 w2.1
  have e3 : DataW.trod enc Try.prog W 0 (fun _ => true) true n 3 ((cs.drop 7).take (Try.prog.cellsOf 3)) = some y3 := hf 3 _ rfl
  rw [cells3] at e3
  have w3 := each_cons (t := 3) (d := y3.1) w2.2
  obtain ⟨a3, K3, b3⟩ := op_3 H enc W n _ _ e3 w3.1
  have e4 : DataW.trod enc Try.prog W 0 (fun _ => true) true n 3 ((cs.drop 8).take (Try.prog.cellsOf 3)) = some y4 := hf 4 _ rfl
  rw [cells3] at e4
  have w4 := each_cons (t := 3) (d := y4.1) w3.2
  obtain ⟨a4, K4, b4⟩ := op_3 H enc W n _ _ e4 w4.1
  have e5 : DataW.trod enc Try.prog W 0 (fun _ => true) true n 29 ((cs.drop 9).take (Try.prog.cellsOf 29)) = some y5 := hf 5 _ rfl
  rw [cells29] at e5
  have w5 := each_cons (t := 29) (d := y5.1) w4.2
  obtain ⟨a5, K5, b5⟩ := op_29 H enc W n _ _ e5 w5.1
  have e6 : DataW.trod enc Try.prog W 0 (fun _ => true) true n 24 ((cs.drop 11).take (Try.prog.cellsOf 24)) = some y6 := hf 6 _ rfl
  rw [cells24] at e6
  have w6 := each_cons (t := 24) (d := y6.1) w5.2
  obtain ⟨a6, K6, b6⟩ := op_24 H enc W n _ _ e6 w6.1
  refine ⟨⟨a0, a1, a2, a3, a4, a5, a6⟩, ?_, ⟨b0, b1, b2, b3, b4, b5, b6⟩⟩
  rw [cutl cs 11 1 hl'] at K6
  exact ⟨_, _, cut0 cs 1, K0, ⟨_, _, cut cs 1 5 6 rfl, K1, ⟨_, _, cut cs 6 1 7 rfl, K2, ⟨_, _, cut cs 7 1 8 rfl, K3, ⟨_, _, cut cs 8 1 9 rfl, K4, ⟨_, _, cut cs 9 2 11 rfl, K5, K6⟩⟩⟩⟩⟩⟩
theorem cells42 : Try.prog.cellsOf 42 = 1 := by kernel_rfl
theorem op_42 : Opens Try.prog 42 (Kd.int .u8) (fun n : Int => (Lit.int .u8 n).wf = true) := opens_int Try.underlying42
theorem cells44 : Try.prog.cellsOf 44 = 4 := by kernel_rfl
def B44 (x : S44) : Prop := (fun n : Int => (Lit.int .u8 n).wf = true) x.f0 ∧ (fun n : Int => (Lit.int .u8 n).wf = true) x.f1 ∧ (fun n : Int => (Lit.int .u32 n).wf = true) x.f2 ∧ (fun n : Int => (Lit.int .u64 n).wf = true) x.f3
theorem op_44 : Opens Try.prog 44 k44 B44 := by
  intro H enc W fuel cs x h hw
  obtain ⟨xs, n, _, rfl, hl, hxl, hf⟩ := DataW.trod_struct Try.underlying44 h
  have hl' : cs.length = 4 := hl.trans cells44
  have g0 : xs.length = 4 := hxl
  obtain ⟨y0, xs0, rfl, g1⟩ := len_succ g0
  obtain ⟨y1, xs1, rfl, g2⟩ := len_succ g1
  obtain ⟨y2, xs2, rfl, g3⟩ := len_succ g2
  obtain ⟨y3, xs3, rfl, g4⟩ := len_succ g3
  obtain rfl := len_zero g4
  simp only [DataW.weights, Try.underlying44] at hw
  have e0 : DataW.trod enc Try.prog W 0 (fun _ => true) true n 42 ((cs.drop 0).take (Try.prog.cellsOf 42)) = some y0 := hf 0 _ rfl
  rw [cells42] at e0
  have w0 := each_cons (t := 42) (d := y0.1) hw
  obtain ⟨a0, K0, b0⟩ := op_42 H enc W n _ _ e0 w0.1
  have e1 : DataW.trod enc Try.prog W 0 (fun _ => true) true n 5 ((cs.drop 1).take (Try.prog.cellsOf 5)) = some y1 := hf 1 _ rfl
  rw [cells5] at e1
  have w1 := each_cons (t := 5) (d := y1.1) w0.2
  obtain ⟨a1, K1, b1⟩ := op_5 H enc W n _ _ e1 w1.1
  have e2 : DataW.trod enc Try.prog W 0 (fun _ => true) true n 23 ((cs.drop 2).take (Try.prog.cellsOf 23)) = some y2 := hf 2 _ rfl
  rw [cells23] at e2
  have w2 := each_cons (t := 23) (d := y2.1) w1.2
  obtain ⟨a2, K2, b2⟩ := op_23 H enc W n _ _ e2 w2.1
  have e3 : DataW.trod enc Try.prog W 0 (fun _ => true) true n 24 ((cs.drop 3).take (Try.prog.cellsOf 24)) = some y3 := hf 3 _ rfl
  rw [cells24] at e3
  have w3 := each_cons (t := 24) (d := y3.1) w2.2
  obtain ⟨a3, K3, b3⟩ := op_24 H enc W n _ _ e3 w3.1
  refine ⟨⟨a0, a1, a2, a3⟩, ?_, ⟨b0, b1, b2, b3⟩⟩
  rw [cutl cs 3 1 hl'] at K3
  exact ⟨_, _, cut0 cs 1, K0, ⟨_, _, cut cs 1 1 2 rfl, K1, ⟨_, _, cut cs 2 1 3 rfl, K2, K3⟩⟩⟩
theorem cells4 : Try.prog.cellsOf 4 = 1 := by kernel_rfl
theorem op_4 : Opens Try.prog 4 Kd.bool (fun _ : Bool => True) := opens_bool Try.underlying4
theorem cells46 : Try.prog.cellsOf 46 = 18 := by kernel_rfl
def B46 (x : S46) : Prop := B44 x.f0 ∧ B31 x.f1 ∧ (fun n : Int => (Lit.int .u8 n).wf = true) x.f2 ∧ (fun _ : Bool => True) x.f3
theorem op_46 : Opens Try.prog 46 k46 B46 := by
  intro H enc W fuel cs x h hw
  obtain ⟨xs, n, _, rfl, hl, hxl, hf⟩ := DataW.trod_struct Try.underlying46 h
  have hl' : cs.length = 18 := hl.trans cells46
  have g0 : xs.length = 4 := hxl
  obtain ⟨y0, xs0, rfl, g1⟩ := len_succ g0
  obtain ⟨y1, xs1, rfl, g2⟩ := len_succ g1
  obtain ⟨y2, xs2, rfl, g3⟩ := len_succ g2
  obtain ⟨y3, xs3, rfl, g4⟩ := len_succ g3
  obtain rfl := len_zero g4
  simp only [DataW.weights, Try.underlying46] at hw
  have e0 : DataW.trod enc Try.prog W 0 (fun _ => true) true n 44 ((cs.drop 0).take (Try.prog.cellsOf 44)) = some y0 := hf 0 _ rfl
  rw [cells44] at e0
  have w0 := each_cons (t := 44) (d := y0.1) hw
  obtain ⟨a0, K0, b0⟩ := op_44 H enc W n _ _ e0 w0.1
  have e1 : DataW.trod enc Try.prog W 0 (fun _ => true) true n 31 ((cs.drop 4).take (Try.prog.cellsOf 31)) = some y1 := hf 1 _ rfl
  rw [cells31] at e1
  have w1 := each_cons (t := 31) (d := y1.1) w0.2
  obtain ⟨a1, K1, b1⟩ := op_31 H enc W n _ _ e1 w1.1
  have e2 : DataW.trod enc Try.prog W 0 (fun _ => true) true n 42 ((cs.drop 16).take (Try.prog.cellsOf 42)) = some y2 := hf 2 _ rfl
  rw [cells42] at e2
  have w2 := each_cons (t := 42) (d := y2.1) w1.2
  obtain ⟨a2, K2, b2⟩ := op_42 H enc W n _ _ e2 w2.1
  have e3 : DataW.trod enc Try.prog W 0 (fun _ => true) true n 4 ((cs.drop 17).take (Try.prog.cellsOf 4)) = some y3 := hf 3 _ rfl
  rw [cells4] at e3
  have w3 := each_cons (t := 4) (d := y3.1) w2.2
  obtain ⟨a3, K3, b3⟩ := op_4 H enc W n _ _ e3 w3.1
  refine ⟨⟨a0, a1, a2, a3⟩, ?_, ⟨b0, b1, b2, b3⟩⟩
  rw [cutl cs 17 1 hl'] at K3
  exact ⟨_, _, cut0 cs 4, K0, ⟨_, _, cut cs 4 12 16 rfl, K1, ⟨_, _, cut cs 16 1 17 rfl, K2, K3⟩⟩⟩
theorem cells59 : Try.prog.cellsOf 59 = 1 := by kernel_rfl
theorem op_59 : Opens Try.prog 59 (Kd.slice 46 k46) (fun l : List S46 => l.length * 96 ≤ 140737488351232 ∧ ∀ x ∈ l, B46 x) := opens_slice (B := 96) Try.underlying59 (cells46.trans rfl) (by kernel_rfl) op_46
theorem cells48 : Try.prog.cellsOf 48 = 2 := by kernel_rfl
def B48 (x : S48) : Prop := (fun n : Int => (Lit.int .i64 n).wf = true) x.f0 ∧ (fun n : Int => (Lit.int .i64 n).wf = true) x.f1
theorem op_48 : Opens Try.prog 48 k48 B48 := by
  intro H enc W fuel cs x h hw
  obtain ⟨xs, n, _, rfl, hl, hxl, hf⟩ := DataW.trod_struct Try.underlying48 h
  have hl' : cs.length = 2 := hl.trans cells48
  have g0 : xs.length = 2 := hxl
  obtain ⟨y0, xs0, rfl, g1⟩ := len_succ g0
  obtain ⟨y1, xs1, rfl, g2⟩ := len_succ g1
  obtain rfl := len_zero g2
  simp only [DataW.weights, Try.underlying48] at hw
  have e0 : DataW.trod enc Try.prog W 0 (fun _ => true) true n 3 ((cs.drop 0).take (Try.prog.cellsOf 3)) = some y0 := hf 0 _ rfl
  rw [cells3] at e0
  have w0 := each_cons (t := 3) (d := y0.1) hw
  obtain ⟨a0, K0, b0⟩ := op_3 H enc W n _ _ e0 w0.1
  have e1 : DataW.trod enc Try.prog W 0 (fun _ => true) true n 3 ((cs.drop 1).take (Try.prog.cellsOf 3)) = some y1 := hf 1 _ rfl
  rw [cells3] at e1
  have w1 := each_cons (t := 3) (d := y1.1) w0.2
  obtain ⟨a1, K1, b1⟩ := op_3 H enc W n _ _ e1 w1.1
  refine ⟨⟨a0, a1⟩, ?_, ⟨b0, b1⟩⟩
  rw [cutl cs 1 1 hl'] at K1
  exact ⟨_, _, cut0 cs 1, K0, K1⟩
end Go.Proofs.Ytooddkaepkjidaa.OStepFew
