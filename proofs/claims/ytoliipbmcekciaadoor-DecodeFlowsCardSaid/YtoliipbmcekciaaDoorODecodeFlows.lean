/- DecodeFlows: the arguments of the statement opened into plain values; the pure statement. Written by genlaw.py of this repo. -/
import Derived.Test.YtoliipbmcekciaaDoorLO
import Derived.Test.YtoliipbmcekciaaDoorJDd
import Derived.Test.YtoliipbmcekciaaDoorT3De
namespace Go.Proofs.YtoliipbmcekciaaDoor.ODecodeFlows
open Go.RowKit Go.ChangeShapes Go.WideShapes Go.ChangeAt Go.Proofs.YtoliipbmcekciaaDoorW.PrintWords Go.Proofs.YtoliipbmcekciaaDoor.LO Go.Proofs.YtoliipbmcekciaaDoor.QDd
set_option linter.unusedVariables false
theorem cells45 : Tryd.prog.cellsOf 45 = 1 := by kernel_rfl
theorem op_45 : Opens Tryd.prog 45 (Kd.int .u64) (fun n : Int => (Lit.int .u64 n).wf = true) := opens_int Tryd.underlying45
theorem cells22 : Tryd.prog.cellsOf 22 = 1 := by kernel_rfl
theorem op_22 : Opens Tryd.prog 22 (Kd.slice 45 (Kd.int .u64)) (fun l : List Int => l.length * 8 ≤ 140737488351232 ∧ ∀ x ∈ l, (fun n : Int => (Lit.int .u64 n).wf = true) x) := opens_slice (B := 8) Tryd.underlying22 (cells45.trans rfl) (by kernel_rfl) op_45
theorem cells3 : Tryd.prog.cellsOf 3 = 1 := by kernel_rfl
theorem op_3 : Opens Tryd.prog 3 (Kd.int .i64) (fun n : Int => (Lit.int .i64 n).wf = true) := opens_int Tryd.underlying3
theorem cells97 : Tryd.prog.cellsOf 97 = 2 := by kernel_rfl
def B97 (x : S97) : Prop := (fun n : Int => (Lit.int .i64 n).wf = true) x.f0 ∧ (fun n : Int => (Lit.int .i64 n).wf = true) x.f1
theorem op_97 : Opens Tryd.prog 97 k97 B97 := by
  intro H enc W fuel cs x h hw
  obtain ⟨xs, n, _, rfl, hl, hxl, hf⟩ := DataW.trod_struct Tryd.underlying97 h
  have hl' : cs.length = 2 := hl.trans cells97
  have g0 : xs.length = 2 := hxl
  obtain ⟨y0, xs0, rfl, g1⟩ := len_succ g0
  obtain ⟨y1, xs1, rfl, g2⟩ := len_succ g1
  obtain rfl := len_zero g2
  simp only [DataW.weights, Tryd.underlying97] at hw
  have e0 : DataW.trod enc Tryd.prog W 0 (fun _ => true) true n 3 ((cs.drop 0).take (Tryd.prog.cellsOf 3)) = some y0 := hf 0 _ rfl
  rw [cells3] at e0
  have w0 := each_cons (t := 3) (d := y0.1) hw
  obtain ⟨a0, K0, b0⟩ := op_3 H enc W n _ _ e0 w0.1
  have e1 : DataW.trod enc Tryd.prog W 0 (fun _ => true) true n 3 ((cs.drop 1).take (Tryd.prog.cellsOf 3)) = some y1 := hf 1 _ rfl
  rw [cells3] at e1
  have w1 := each_cons (t := 3) (d := y1.1) w0.2
  obtain ⟨a1, K1, b1⟩ := op_3 H enc W n _ _ e1 w1.1
  refine ⟨⟨a0, a1⟩, ?_, ⟨b0, b1⟩⟩
  rw [cutl cs 1 1 hl'] at K1
  exact ⟨_, _, cut0 cs 1, K0, K1⟩
theorem cells23 : Tryd.prog.cellsOf 23 = 1 := by kernel_rfl
theorem op_23 : Opens Tryd.prog 23 (Kd.slice 97 k97) (fun l : List S97 => l.length * 16 ≤ 140737488351232 ∧ ∀ x ∈ l, B97 x) := opens_slice (B := 16) Tryd.underlying23 (cells97.trans rfl) (by kernel_rfl) op_97
theorem cells4 : Tryd.prog.cellsOf 4 = 1 := by kernel_rfl
theorem op_4 : Opens Tryd.prog 4 Kd.bool (fun _ : Bool => True) := opens_bool Tryd.underlying4
theorem cells103 : Tryd.prog.cellsOf 103 = 3 := by kernel_rfl
def B103 (x : S103) : Prop := (fun n : Int => (Lit.int .i64 n).wf = true) x.f0 ∧ (fun n : Int => (Lit.int .i64 n).wf = true) x.f1 ∧ (fun _ : Bool => True) x.f2
theorem op_103 : Opens Tryd.prog 103 k103 B103 := by
  intro H enc W fuel cs x h hw
  obtain ⟨xs, n, _, rfl, hl, hxl, hf⟩ := DataW.trod_struct Tryd.underlying103 h
  have hl' : cs.length = 3 := hl.trans cells103
  have g0 : xs.length = 3 := hxl
  obtain ⟨y0, xs0, rfl, g1⟩ := len_succ g0
  obtain ⟨y1, xs1, rfl, g2⟩ := len_succ g1
  obtain ⟨y2, xs2, rfl, g3⟩ := len_succ g2
  obtain rfl := len_zero g3
  simp only [DataW.weights, Tryd.underlying103] at hw
  have e0 : DataW.trod enc Tryd.prog W 0 (fun _ => true) true n 3 ((cs.drop 0).take (Tryd.prog.cellsOf 3)) = some y0 := hf 0 _ rfl
  rw [cells3] at e0
  have w0 := each_cons (t := 3) (d := y0.1) hw
  obtain ⟨a0, K0, b0⟩ := op_3 H enc W n _ _ e0 w0.1
  have e1 : DataW.trod enc Tryd.prog W 0 (fun _ => true) true n 3 ((cs.drop 1).take (Tryd.prog.cellsOf 3)) = some y1 := hf 1 _ rfl
  rw [cells3] at e1
  have w1 := each_cons (t := 3) (d := y1.1) w0.2
  obtain ⟨a1, K1, b1⟩ := op_3 H enc W n _ _ e1 w1.1
  have e2 : DataW.trod enc Tryd.prog W 0 (fun _ => true) true n 4 ((cs.drop 2).take (Tryd.prog.cellsOf 4)) = some y2 := hf 2 _ rfl
  rw [cells4] at e2
  have w2 := each_cons (t := 4) (d := y2.1) w1.2
  obtain ⟨a2, K2, b2⟩ := op_4 H enc W n _ _ e2 w2.1
  refine ⟨⟨a0, a1, a2⟩, ?_, ⟨b0, b1, b2⟩⟩
  rw [cutl cs 2 1 hl'] at K2
  exact ⟨_, _, cut0 cs 1, K0, ⟨_, _, cut cs 1 1 2 rfl, K1, K2⟩⟩
theorem cells84 : Tryd.prog.cellsOf 84 = 1 := by kernel_rfl
theorem op_84 : Opens Tryd.prog 84 (Kd.slice 103 k103) (fun l : List S103 => l.length * 24 ≤ 140737488351232 ∧ ∀ x ∈ l, B103 x) := opens_slice (B := 24) Tryd.underlying84 (cells103.trans rfl) (by kernel_rfl) op_103
theorem cells105 : Tryd.prog.cellsOf 105 = 2 := by kernel_rfl
def B105 (x : S105) : Prop := (fun n : Int => (Lit.int .i64 n).wf = true) x.f0 ∧ (fun _ : Bool => True) x.f1
theorem op_105 : Opens Tryd.prog 105 k105 B105 := by
  intro H enc W fuel cs x h hw
  obtain ⟨xs, n, _, rfl, hl, hxl, hf⟩ := DataW.trod_struct Tryd.underlying105 h
  have hl' : cs.length = 2 := hl.trans cells105
  have g0 : xs.length = 2 := hxl
  obtain ⟨y0, xs0, rfl, g1⟩ := len_succ g0
  obtain ⟨y1, xs1, rfl, g2⟩ := len_succ g1
  obtain rfl := len_zero g2
  simp only [DataW.weights, Tryd.underlying105] at hw
  have e0 : DataW.trod enc Tryd.prog W 0 (fun _ => true) true n 3 ((cs.drop 0).take (Tryd.prog.cellsOf 3)) = some y0 := hf 0 _ rfl
  rw [cells3] at e0
  have w0 := each_cons (t := 3) (d := y0.1) hw
  obtain ⟨a0, K0, b0⟩ := op_3 H enc W n _ _ e0 w0.1
  have e1 : DataW.trod enc Tryd.prog W 0 (fun _ => true) true n 4 ((cs.drop 1).take (Tryd.prog.cellsOf 4)) = some y1 := hf 1 _ rfl
  rw [cells4] at e1
  have w1 := each_cons (t := 4) (d := y1.1) w0.2
  obtain ⟨a1, K1, b1⟩ := op_4 H enc W n _ _ e1 w1.1
  refine ⟨⟨a0, a1⟩, ?_, ⟨b0, b1⟩⟩
  rw [cutl cs 1 1 hl'] at K1
  exact ⟨_, _, cut0 cs 1, K0, K1⟩
theorem cells85 : Tryd.prog.cellsOf 85 = 1 := by kernel_rfl
theorem op_85 : Opens Tryd.prog 85 (Kd.slice 105 k105) (fun l : List S105 => l.length * 16 ≤ 140737488351232 ∧ ∀ x ∈ l, B105 x) := opens_slice (B := 16) Tryd.underlying85 (cells105.trans rfl) (by kernel_rfl) op_105
theorem cells87 : Tryd.prog.cellsOf 87 = 3 := by kernel_rfl
def B87 (x : S87) : Prop := (fun n : Int => (Lit.int .i64 n).wf = true) x.f0 ∧ (fun l : List S103 => l.length * 24 ≤ 140737488351232 ∧ ∀ x ∈ l, B103 x) x.f1 ∧ (fun l : List S105 => l.length * 16 ≤ 140737488351232 ∧ ∀ x ∈ l, B105 x) x.f2
theorem op_87 : Opens Tryd.prog 87 k87 B87 := by
  intro H enc W fuel cs x h hw
  obtain ⟨xs, n, _, rfl, hl, hxl, hf⟩ := DataW.trod_struct Tryd.underlying87 h
  have hl' : cs.length = 3 := hl.trans cells87
  have g0 : xs.length = 3 := hxl
  obtain ⟨y0, xs0, rfl, g1⟩ := len_succ g0
  obtain ⟨y1, xs1, rfl, g2⟩ := len_succ g1
  obtain ⟨y2, xs2, rfl, g3⟩ := len_succ g2
  obtain rfl := len_zero g3
  simp only [DataW.weights, Tryd.underlying87] at hw
  have e0 : DataW.trod enc Tryd.prog W 0 (fun _ => true) true n 3 ((cs.drop 0).take (Tryd.prog.cellsOf 3)) = some y0 := hf 0 _ rfl
  rw [cells3] at e0
  have w0 := each_cons (t := 3) (d := y0.1) hw
  obtain ⟨a0, K0, b0⟩ := op_3 H enc W n _ _ e0 w0.1
  have e1 : DataW.trod enc Tryd.prog W 0 (fun _ => true) true n 84 ((cs.drop 1).take (Tryd.prog.cellsOf 84)) = some y1 := hf 1 _ rfl
  rw [cells84] at e1
  have w1 := each_cons (t := 84) (d := y1.1) w0.2
  obtain ⟨a1, K1, b1⟩ := op_84 H enc W n _ _ e1 w1.1
  have e2 : DataW.trod enc Tryd.prog W 0 (fun _ => true) true n 85 ((cs.drop 2).take (Tryd.prog.cellsOf 85)) = some y2 := hf 2 _ rfl
  rw [cells85] at e2
  have w2 := each_cons (t := 85) (d := y2.1) w1.2
  obtain ⟨a2, K2, b2⟩ := op_85 H enc W n _ _ e2 w2.1
  refine ⟨⟨a0, a1, a2⟩, ?_, ⟨b0, b1, b2⟩⟩
  rw [cutl cs 2 1 hl'] at K2
  exact ⟨_, _, cut0 cs 1, K0, ⟨_, _, cut cs 1 1 2 rfl, K1, K2⟩⟩
theorem cells24 : Tryd.prog.cellsOf 24 = 1 := by kernel_rfl
theorem op_24 : Opens Tryd.prog 24 (Kd.slice 87 k87) (fun l : List S87 => l.length * 56 ≤ 140737488351232 ∧ ∀ x ∈ l, B87 x) := opens_slice (B := 56) Tryd.underlying24 (cells87.trans rfl) (by kernel_rfl) op_87
theorem cells107 : Tryd.prog.cellsOf 107 = 3 := by kernel_rfl
def B107 (x : S107) : Prop := (fun n : Int => (Lit.int .i64 n).wf = true) x.f0 ∧ (fun n : Int => (Lit.int .i64 n).wf = true) x.f1 ∧ (fun n : Int => (Lit.int .i64 n).wf = true) x.f2
theorem op_107 : Opens Tryd.prog 107 k107 B107 := by
  intro H enc W fuel cs x h hw
  obtain ⟨xs, n, _, rfl, hl, hxl, hf⟩ := DataW.trod_struct Tryd.underlying107 h
  have hl' : cs.length = 3 := hl.trans cells107
  have g0 : xs.length = 3 := hxl
  obtain ⟨y0, xs0, rfl, g1⟩ := len_succ g0
  obtain ⟨y1, xs1, rfl, g2⟩ := len_succ g1
  obtain ⟨y2, xs2, rfl, g3⟩ := len_succ g2
  obtain rfl := len_zero g3
  simp only [DataW.weights, Tryd.underlying107] at hw
  have e0 : DataW.trod enc Tryd.prog W 0 (fun _ => true) true n 3 ((cs.drop 0).take (Tryd.prog.cellsOf 3)) = some y0 := hf 0 _ rfl
  rw [cells3] at e0
  have w0 := each_cons (t := 3) (d := y0.1) hw
  obtain ⟨a0, K0, b0⟩ := op_3 H enc W n _ _ e0 w0.1
  have e1 : DataW.trod enc Tryd.prog W 0 (fun _ => true) true n 3 ((cs.drop 1).take (Tryd.prog.cellsOf 3)) = some y1 := hf 1 _ rfl
  rw [cells3] at e1
  have w1 := each_cons (t := 3) (d := y1.1) w0.2
  obtain ⟨a1, K1, b1⟩ := op_3 H enc W n _ _ e1 w1.1
  have e2 : DataW.trod enc Tryd.prog W 0 (fun _ => true) true n 3 ((cs.drop 2).take (Tryd.prog.cellsOf 3)) = some y2 := hf 2 _ rfl
  rw [cells3] at e2
  have w2 := each_cons (t := 3) (d := y2.1) w1.2
  obtain ⟨a2, K2, b2⟩ := op_3 H enc W n _ _ e2 w2.1
  refine ⟨⟨a0, a1, a2⟩, ?_, ⟨b0, b1, b2⟩⟩
  rw [cutl cs 2 1 hl'] at K2
  exact ⟨_, _, cut0 cs 1, K0, ⟨_, _, cut cs 1 1 2 rfl, K1, K2⟩⟩
theorem cells25 : Tryd.prog.cellsOf 25 = 1 := by kernel_rfl
theorem op_25 : Opens Tryd.prog 25 (Kd.slice 107 k107) (fun l : List S107 => l.length * 24 ≤ 140737488351232 ∧ ∀ x ∈ l, B107 x) := opens_slice (B := 24) Tryd.underlying25 (cells107.trans rfl) (by kernel_rfl) op_107
theorem cells26 : Tryd.prog.cellsOf 26 = 1 := by kernel_rfl
theorem op_26 : Opens Tryd.prog 26 (Kd.slice 3 (Kd.int .i64)) (fun l : List Int => l.length * 8 ≤ 140737488351232 ∧ ∀ x ∈ l, (fun n : Int => (Lit.int .i64 n).wf = true) x) := opens_slice (B := 8) Tryd.underlying26 (cells3.trans rfl) (by kernel_rfl) op_3
theorem cells28 : Tryd.prog.cellsOf 28 = 8 := by kernel_rfl
def B28 (x : S28) : Prop := (fun l : List Int => l.length * 8 ≤ 140737488351232 ∧ ∀ x ∈ l, (fun n : Int => (Lit.int .u64 n).wf = true) x) x.f0 ∧ (fun l : List S97 => l.length * 16 ≤ 140737488351232 ∧ ∀ x ∈ l, B97 x) x.f1 ∧ (fun l : List S87 => l.length * 56 ≤ 140737488351232 ∧ ∀ x ∈ l, B87 x) x.f2 ∧ (fun l : List S107 => l.length * 24 ≤ 140737488351232 ∧ ∀ x ∈ l, B107 x) x.f3 ∧ (fun l : List Int => l.length * 8 ≤ 140737488351232 ∧ ∀ x ∈ l, (fun n : Int => (Lit.int .i64 n).wf = true) x) x.f4 ∧ (fun n : Int => (Lit.int .i64 n).wf = true) x.f5 ∧ (fun n : Int => (Lit.int .i64 n).wf = true) x.f6 ∧ (fun n : Int => (Lit.int .i64 n).wf = true) x.f7
theorem op_28 : Opens Tryd.prog 28 k28 B28 := by
  intro H enc W fuel cs x h hw
  obtain ⟨xs, n, _, rfl, hl, hxl, hf⟩ := DataW.trod_struct Tryd.underlying28 h
  have hl' : cs.length = 8 := hl.trans cells28
  have g0 : xs.length = 8 := hxl
  obtain ⟨y0, xs0, rfl, g1⟩ := len_succ g0
  obtain ⟨y1, xs1, rfl, g2⟩ := len_succ g1
  obtain ⟨y2, xs2, rfl, g3⟩ := len_succ g2
  obtain ⟨y3, xs3, rfl, g4⟩ := len_succ g3
  obtain ⟨y4, xs4, rfl, g5⟩ := len_succ g4
  obtain ⟨y5, xs5, rfl, g6⟩ := len_succ g5
  obtain ⟨y6, xs6, rfl, g7⟩ := len_succ g6
  obtain ⟨y7, xs7, rfl, g8⟩ := len_succ g7
  obtain rfl := len_zero g8
  simp only [DataW.weights, Tryd.underlying28] at hw
  have e0 : DataW.trod enc Tryd.prog W 0 (fun _ => true) true n 22 ((cs.drop 0).take (Tryd.prog.cellsOf 22)) = some y0 := hf 0 _ rfl
  rw [cells22] at e0
  have w0 := each_cons (t := 22) (d := y0.1) hw
  obtain ⟨a0, K0, b0⟩ := op_22 H enc W n _ _ e0 w0.1
  have e1 : DataW.trod enc Tryd.prog W 0 (fun _ => true) true n 23 ((cs.drop 1).take (Tryd.prog.cellsOf 23)) = some y1 := hf 1 _ rfl
  rw [cells23] at e1
  have w1 := each_cons (t := 23) (d := y1.1) w0.2
  obtain ⟨a1, K1, b1⟩ := op_23 H enc W n _ _ e1 w1.1
  have e2 : DataW.trod enc Tryd.prog W 0 (fun _ => true) true n 24 ((cs.drop 2).take (Tryd.prog.cellsOf 24)) = some y2 := hf 2 _ rfl
  rw [cells24] at e2
  have w2 := each_cons (t := 24) (d := y2.1) w1.2
  obtain ⟨a2, K2, b2⟩ := op_24 H enc W n _ _ e2 w2.1
  have e3 : DataW.trod enc Tryd.prog W 0 (fun _ => true) true n 25 ((cs.drop 3).take (Tryd.prog.cellsOf 25)) = some y3 := hf 3 _ rfl
  rw [cells25] at e3
  have w3 := each_cons (t := 25) (d := y3.1) w2.2
  obtain ⟨a3, K3, b3⟩ := op_25 H enc W n _ _ e3 w3.1
  have e4 : DataW.trod enc Tryd.prog W 0 (fun _ => true) true n 26 ((cs.drop 4).take (Tryd.prog.cellsOf 26)) = some y4 := hf 4 _ rfl
  rw [cells26] at e4
  have w4 := each_cons (t := 26) (d := y4.1) w3.2
  obtain ⟨a4, K4, b4⟩ := op_26 H enc W n _ _ e4 w4.1
  have e5 : DataW.trod enc Tryd.prog W 0 (fun _ => true) true n 3 ((cs.drop 5).take (Tryd.prog.cellsOf 3)) = some y5 := hf 5 _ rfl
  rw [cells3] at e5
  have w5 := each_cons (t := 3) (d := y5.1) w4.2
  obtain ⟨a5, K5, b5⟩ := op_3 H enc W n _ _ e5 w5.1
  have e6 : DataW.trod enc Tryd.prog W 0 (fun _ => true) true n 3 ((cs.drop 6).take (Tryd.prog.cellsOf 3)) = some y6 := hf 6 _ rfl
  rw [cells3] at e6
  have w6 := each_cons (t := 3) (d := y6.1) w5.2
  obtain ⟨a6, K6, b6⟩ := op_3 H enc W n _ _ e6 w6.1
  have e7 : DataW.trod enc Tryd.prog W 0 (fun _ => true) true n 3 ((cs.drop 7).take (Tryd.prog.cellsOf 3)) = some y7 := hf 7 _ rfl
  rw [cells3] at e7
  have w7 := each_cons (t := 3) (d := y7.1) w6.2
  obtain ⟨a7, K7, b7⟩ := op_3 H enc W n _ _ e7 w7.1
  refine ⟨⟨a0, a1, a2, a3, a4, a5, a6, a7⟩, ?_, ⟨b0, b1, b2, b3, b4, b5, b6, b7⟩⟩
  rw [cutl cs 7 1 hl'] at K7
  exact ⟨_, _, cut0 cs 1, K0, ⟨_, _, cut cs 1 1 2 rfl, K1, ⟨_, _, cut cs 2 1 3 rfl, K2, ⟨_, _, cut cs 3 1 4 rfl, K3, ⟨_, _, cut cs 4 1 5 rfl, K4, ⟨_, _, cut cs 5 1 6 rfl, K5, ⟨_, _, cut cs 6 1 7 rfl, K6, K7⟩⟩⟩⟩⟩⟩⟩
end Go.Proofs.YtoliipbmcekciaaDoor.ODecodeFlows
