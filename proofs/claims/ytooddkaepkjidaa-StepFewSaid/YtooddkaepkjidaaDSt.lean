/- Step: a micro-step (does), by what is next. -/
import Derived.Test.YtooddkaepkjidaaG3St
import Derived.Deep.RegionWith
namespace Go.Proofs.Ytooddkaepkjidaa.QSt
open Go.RowKit Go.Proofs.YtooddkaepkjidaaW.PrintWords Go.Proofs.YtooddkaepkjidaaW.PrintLast Go.Proofs.YtooddkaepkjidaaW.PrintMore
set_option linter.unusedVariables false
set_option linter.unusedSimpArgs false
attribute [local go_sem] cs_off

/-- The four boxes of 'does'. -/
def Boxes4 (w w2 : World) (o : SOp) (x y : Int) : Prop :=
  w2.heap[w.heap.size]? = some (.cells (cOp o) 31 (0, 0)) ∧ w2.heap[w.heap.size + 1]? = some (.cells #[.int .i64 x, .int .i64 y] 48 (0, 0)) ∧ w2.heap[w.heap.size + 1 + 1]? = some (.cells (cOp SOp.zero) 31 (0, 0)) ∧
  w2.heap[w.heap.size + 1 + 1 + 1]? = some (.cells #[.int .u8 SRep.zero.c, .int .u8 SRep.zero.a, .int .u32 SRep.zero.h, .int .u64 SRep.zero.p] 44 (0, 0))

theorem boxes4_of {B : Nat} {w w1 : World} {o : SOp} {x y : Int} (hB : B < w.heap.size) (h : KB B ((((w.alloc (.cells (cOp o) 31)).alloc (.cells #[.int .i64 x, .int .i64 y] 48)).alloc (.cells (cOp SOp.zero) 31)).alloc (.cells #[.int .u8 SRep.zero.c, .int .u8 SRep.zero.a, .int .u32 SRep.zero.h, .int .u64 SRep.zero.p] 44)) w1) : Boxes4 w w1 o x y := by
  refine ⟨h _ _ _ (by omega) (by decide) ?_, h _ _ _ (by omega) (by decide) ?_, h _ _ _ (by omega) (by decide) ?_, h _ _ _ (by omega) (by decide) ?_⟩
  · rw [heap_alloc_old _ _ (by simp only [World.size_alloc]; omega), heap_alloc_old _ _ (by simp only [World.size_alloc]; omega), heap_alloc_old _ _ (by simp only [World.size_alloc]; omega)]; exact heap_alloc_new _ _
  · rw [heap_alloc_old _ _ (by simp only [World.size_alloc]; omega), heap_alloc_old _ _ (by simp only [World.size_alloc]; omega), show w.heap.size + 1 = (w.alloc (.cells (cOp o) 31)).heap.size by simp only [World.size_alloc]]; exact heap_alloc_new _ _
  · rw [heap_alloc_old _ _ (by simp only [World.size_alloc]; omega), show w.heap.size + 1 + 1 = ((w.alloc (.cells (cOp o) 31)).alloc (.cells #[.int .i64 x, .int .i64 y] 48)).heap.size by simp only [World.size_alloc]]; exact heap_alloc_new _ _
  · rw [show w.heap.size + 1 + 1 + 1 = (((w.alloc (.cells (cOp o) 31)).alloc (.cells #[.int .i64 x, .int .i64 y] 48)).alloc (.cells (cOp SOp.zero) 31)).heap.size by simp only [World.size_alloc]]; exact heap_alloc_new _ _
theorem stored_op' {B g g2 : Nat} {w0 w Y : World} {s : WS} {x : SOp} {C : Array Value} {D : Obj} (h1 : WP B w0 s Y) (h2 : KB B w Y) (hB : B < g) (hg : w.heap.size ≤ g) (hne : g2 ≠ g) (h3 : Y.heap[g]? = some (.cells C 31 (0, 0))) (h4 : Y.heap[g2]? = some D) (hC : C.size = 12 := by rfl) :
    WP B w0 s (Y.setCells g 0 (cOp x).toList) ∧ KB B w (Y.setCells g 0 (cOp x).toList) ∧ (Y.setCells g 0 (cOp x).toList).heap[g]? = some (.cells (cOp x) 31 (0, 0)) ∧ (Y.setCells g 0 (cOp x).toList).heap[g2]? = some D := by
  refine ⟨h1.other h3 (by decide) hB 0 _, h2.other hg 0 _, ?_, (far_setCells hne _ 0 Y).trans h4⟩
  rw [blk_setCells (cOp x).toList 0 C Y h3, setOp C x hC]
theorem stored_rep' {B g g1 : Nat} {w0 w Y : World} {s : WS} {x : SRep} {C : Array Value} {D : Obj} (h1 : WP B w0 s Y) (h2 : KB B w Y) (hB : B < g) (hg : w.heap.size ≤ g) (hne : g1 ≠ g) (h3 : Y.heap[g1]? = some D) (h4 : Y.heap[g]? = some (.cells C 44 (0, 0))) (hC : C.size = 4 := by rfl) :
    WP B w0 s (Y.setCells g 0 #[Value.int .u8 x.c, Value.int .u8 x.a, Value.int .u32 x.h, Value.int .u64 x.p].toList) ∧ KB B w (Y.setCells g 0 #[Value.int .u8 x.c, Value.int .u8 x.a, Value.int .u32 x.h, Value.int .u64 x.p].toList) ∧ (Y.setCells g 0 #[Value.int .u8 x.c, Value.int .u8 x.a, Value.int .u32 x.h, Value.int .u64 x.p].toList).heap[g1]? = some D ∧ (Y.setCells g 0 #[Value.int .u8 x.c, Value.int .u8 x.a, Value.int .u32 x.h, Value.int .u64 x.p].toList).heap[g]? = some (.cells #[.int .u8 x.c, .int .u8 x.a, .int .u32 x.h, .int .u64 x.p] 44 (0, 0)) := by
  refine ⟨h1.other h4 (by decide) hB 0 _, h2.other hg 0 _, (far_setCells hne _ 0 Y).trans h3, ?_⟩
  rw [blk_setCells _ 0 C Y h4, setRep C x hC]

set_option maxRecDepth 100000 in
set_option maxHeartbeats 2000000 in
theorem does_Write (B : Nat) (s : WS) (o : SOp) (x y : Int) (w0 w : World) (h : WP B w0 s w) (hl : s.qs.length < 1000) :
    Calls Try.prog 26 #[vW B, vOp { o with nx := 3 }, .agg #[.int .i64 x, .int .i64 y]] w fun e w' =>
      e = .returned (.tuple #[vOp { o with nx := 4 }, vRep SRep.zero, .bool false]) ∧ WP B w0 { s with qs := s.qs ++ [3], l := { o with nx := 3 } } w' ∧ KB B w w' := by
  have H := Aside0.mk h
  have hB : Aside0 (B < w.heap.size) := ⟨h.lt⟩
  clear h
  go_enter Try.func26, Try.ntmps26
  go_wp2_with (first | (go_at_call 53; refine (Write_calls B s { o with nx := 3 } w0 _ ((((H.out.alloc _).alloc _).alloc _).alloc _) hl).mono ?_; rintro e w1 ⟨rfl, hw1, hk1⟩; have BX := boxes4_of (o := { o with nx := 3 }) hB.out hk1; have K1 := (((((KB.refl B w).alloc _).alloc _).alloc _).alloc _).trans hk1; have HX := Aside0.mk (And.intro hw1 (And.intro K1 BX)); obtain ⟨z0, z1, z2, z3, z4, z5, z6, z7, z8, z9, z10, z11⟩ := op_cells BX.1; have zf := op_frozen BX.1; clear hw1 hk1 K1 BX) | ((with_reducible refine gate_store (p := 6) (t := 31) rfl ?_); have HY := Aside0.mk (And.intro (HX.out.1.other HX.out.2.2.1 (by decide) hB.out 6 [.int .i64 4]) (And.intro (HX.out.2.1.other (Nat.le_refl _) 6 [.int .i64 4]) (And.intro ((far_setCells (k := w.heap.size + 1 + 1) (g := w.heap.size) (by omega) [.int .i64 4] 6 w1).trans HX.out.2.2.2.2.1) ((far_setCells (k := w.heap.size + 1 + 1 + 1) (g := w.heap.size) (by omega) [.int .i64 4] 6 w1).trans HX.out.2.2.2.2.2)))); refine store_blk rfl 31 (.tmp 6) (.tmp 46) rfl (w.heap.size + 1 + 1) 0 (cOp { o with nx := 4 }) _ 31 rfl rfl HY.out.2.2.1 (by simp) (by kernel_rfl) (by simp [Value.oneCell']) ?_; intro w4 e4 hw4; have HZ := Aside0.mk (stored_op' (x := { o with nx := 4 }) HY.out.1 HY.out.2.1 (by have := hB.out; omega) (by omega) (by omega) HY.out.2.2.1 HY.out.2.2.2); have e4' : w4 = (w1.setCells w.heap.size 6 [.int .i64 4]).setCells (w.heap.size + 1 + 1) 0 (cOp { o with nx := 4 }).toList := e4; rw [← e4'] at HZ; clear e4' e4 hw4) | ((with_reducible refine gate_store (p := 7) (t := 44) rfl ?_); refine store_blk rfl 44 (.tmp 7) (.tmp 47) rfl (w.heap.size + 1 + 1 + 1) 0 #[.int .u8 SRep.zero.c, .int .u8 SRep.zero.a, .int .u32 SRep.zero.h, .int .u64 SRep.zero.p] _ 44 rfl rfl HZ.out.2.2.2 (by simp) (by kernel_rfl) (by simp [Value.oneCell']) ?_; intro w5 e5 hw5; have HQ := Aside0.mk (stored_rep' (x := SRep.zero) HZ.out.1 HZ.out.2.1 (by have := hB.out; omega) (by omega) (by omega) HZ.out.2.2.1 HZ.out.2.2.2); rw [← show w5 = _ from e5] at HQ; clear e5 hw5))
  obtain ⟨H5, K5, c1, c2⟩ := HQ.out
  clear z0 z1 z2 z3 z4 z5 z6 z7 z8 z9 z10 z11
  obtain ⟨z0, z1, z2, z3, z4, z5, z6, z7, z8, z9, z10, z11⟩ := op_cells c1
  obtain ⟨y0, y1, y2, y3⟩ := rep_cells c2
  (try simp only [Exit.inBlock, Exit.then])
  refine bodyPost_ret (by simp [results, Try.results26, go_sem, z0, z1, z2, z3, z4, z5, z6, z7, z8, z9, z10, z11, y0, y1, y2, y3]; try rfl) rfl ?_
  exact ⟨rfl, H5, K5⟩
end Go.Proofs.Ytooddkaepkjidaa.QSt
