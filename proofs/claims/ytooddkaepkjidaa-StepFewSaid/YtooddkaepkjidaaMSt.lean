/- Step: the methods of the world of the statements. -/
import Derived.Test.YtooddkaepkjidaaHSt
namespace Go.Proofs.Ytooddkaepkjidaa.QSt
open Go.RowKit Go.Proofs.YtooddkaepkjidaaW.PrintWords Go.Proofs.YtooddkaepkjidaaW.PrintLast Go.Proofs.YtooddkaepkjidaaW.PrintMore
set_option linter.unusedVariables false
set_option linter.unusedSimpArgs false

set_option maxRecDepth 100000 in
set_option maxHeartbeats 1000000 in
theorem Publish_calls (B : Nat) (s : WS) (o : SOp) (x y : Int) (w0 w : World) (h : WP B w0 s w) (hl : s.qs.length < 1000) :
    Calls Try.prog 49 #[.pointer (some ⟨B, 0, none⟩), vOp o, .agg #[.int .i64 x, .int .i64 y]] w fun e w' => e = .returned (.tuple #[]) ∧ WP B w0 { s with qs := s.qs ++ [4], l := o, a0 := x, a1 := y } w' ∧ KB B w w' := by
  have H := Aside0.mk h
  clear h
  go_enter Try.func49, Try.ntmps49
  go_wp2_with (first | (go_at_call 54; refine (note_calls B s 4 o w0 _ ((H.out.alloc _).alloc _) hl).mono ?_; rintro e w1 ⟨rfl, hw1, hk1⟩; have H1 := Aside0.mk hw1; have K1 : Aside0 (KB B w w1) := ⟨(((KB.refl B w).alloc _).alloc _).trans hk1⟩; have bx : Aside0 (w1.heap[w.heap.size + 1]? = some (.cells #[.int .i64 x, .int .i64 y] 48 (0, 0))) := ⟨hk1 _ _ _ (by have := H.out.lt; omega) (by decide) (by rw [show w.heap.size + 1 = (w.alloc (.cells (cOp o) 31)).heap.size from (World.size_alloc ..).symm]; exact heap_alloc_new _ _)⟩; obtain ⟨d0, d1⟩ := two_cells bx.out; clear hw1 hk1) | ((with_reducible refine gate_store (p := 12) (t := 48) rfl ?_); obtain ⟨hbx, vx, hwx, hrx⟩ := H1.out; refine store_blk rfl 48 (.tmp 12) (.tmp 10) rfl B 31 #[.int .i64 x, .int .i64 y] _ 51 rfl rfl hwx (by simp [wCells]) (by kernel_rfl) (by simp [Value.oneCell']) ?_; intro w2 e2 hw2; have H2 : Aside0 (WP B w0 { s with qs := s.qs ++ [4], l := o, a0 := x, a1 := y } w2) := ⟨by rw [e2]; exact H1.out.stamp x y⟩; have K2 : Aside0 (KB B w w2) := ⟨by rw [e2]; exact K1.out.sets 31 _⟩; clear hbx hwx hrx e2 hw2))
  refine bodyPost_end (results_none rfl _ _ _) rfl ?_
  exact ⟨rfl, H2.out, K2.out⟩

theorem WP.rep {B : Nat} {w0 w : World} {s : WS} (h : WP B w0 s w) : w.cell? ⟨B, 0, none⟩ = some (.int .u8 s.t.rep.c) ∧ w.cell? ⟨B, 1, none⟩ = some (.int .u8 s.t.rep.a) ∧ w.cell? ⟨B, 2, none⟩ = some (.int .u32 s.t.rep.h) ∧ w.cell? ⟨B, 3, none⟩ = some (.int .u64 s.t.rep.p) := by
  obtain ⟨hb, v, hw, hrow⟩ := h
  refine ⟨?_, ?_, ?_, ?_⟩ <;> simp [World.cell?, hw, wCells]
theorem WP.ready {B : Nat} {w0 w : World} {s : WS} (h : WP B w0 s w) : w.cell? ⟨B, 17, none⟩ = some (.bool s.t.ready) ∧ w.cell? ⟨B, 33, none⟩ = some (.int .i64 s.rd) ∧ w.frozen? ⟨B, 33, none⟩ = false := by
  obtain ⟨hb, v, hw, hrow⟩ := h
  refine ⟨?_, ?_, ?_⟩ <;> simp [World.cell?, World.frozen?, hw, wCells]
theorem WP.readied {B : Nat} {w0 w : World} {s : WS} (h : WP B w0 s w) (x : Int) : WP B w0 { s with rd := x } (w.setCell ⟨B, 33, none⟩ (.int .i64 x)) := by
  obtain ⟨hb, v, hw, hrow⟩ := h
  refine ⟨hb.setCell (p := ⟨B, 33, none⟩) (Nat.le_refl _) _, v, (blk_set hw 33 _).trans ?_, own_setCell hrow (p := ⟨B, 33, none⟩) (own_ne hrow hw (by decide)) _⟩
  simp only [wCells, List.setIfInBounds_toArray, List.set_cons_succ, List.set_cons_zero]

set_option maxRecDepth 100000 in
set_option maxHeartbeats 1000000 in
theorem Ready_calls (B : Nat) (s : WS) (o : SOp) (w0 w : World) (h : WP B w0 s w) :
    Calls Try.prog 50 #[.pointer (some ⟨B, 0, none⟩), vOp o] w fun e w' => e = .returned (.bool s.t.ready) ∧ WP B w0 { s with rd := wrap64 (s.rd + 1) } w' ∧ KB B w w' := by
  have ha := h.alloc (.cells (cOp o) 31)
  obtain ⟨c17, c33, f33⟩ := ha.ready
  have ha' := ha.readied (wrap64 (s.rd + 1))
  obtain ⟨c17', _, _⟩ := ha'.ready
  have H := Aside0.mk ha'
  have K : Aside0 (KB B w ((w.alloc (.cells (cOp o) 31)).setCell ⟨B, 33, none⟩ (.int .i64 (wrap64 (s.rd + 1))))) := ⟨((KB.refl B w).alloc _).set 33 _⟩
  clear h ha ha'
  dsimp only [cOp] at c17 c33 f33 c17'
  go_enter Try.func50, Try.ntmps50
  go_wp2

  go_ret
  exact ⟨rfl, H.out, K.out⟩

set_option maxRecDepth 100000 in
set_option maxHeartbeats 1000000 in
theorem Once_calls (B : Nat) (s : WS) (o : SOp) (x y : Int) (w0 w : World) (h : WP B w0 s w) (hl : s.qs.length < 1000) :
    Calls Try.prog 48 #[.pointer (some ⟨B, 0, none⟩), vOp o, .agg #[.int .i64 x, .int .i64 y]] w fun e w' => e = .returned (vRep s.t.rep) ∧ WP B w0 { s with qs := s.qs ++ [1], l := o, a0 := x, a1 := y } w' ∧ KB B w w' := by
  have H := Aside0.mk h
  clear h
  go_enter Try.func48, Try.ntmps48
  go_wp2_with (first | (go_at_call 54; refine (note_calls B s 1 o w0 _ (((H.out.alloc _).alloc _).alloc _) hl).mono ?_; rintro e w1 ⟨rfl, hw1, hk1⟩; have H1 := Aside0.mk hw1; have K1 : Aside0 (KB B w w1) := ⟨((((KB.refl B w).alloc _).alloc _).alloc _).trans hk1⟩; have bx : Aside0 (w1.heap[w.heap.size + 1]? = some (.cells #[.int .i64 x, .int .i64 y] 48 (0, 0))) := ⟨hk1 _ _ _ (by have := H.out.lt; omega) (by decide) (by rw [heap_alloc_old _ _ (by rw [World.size_alloc, World.size_alloc]; omega), show w.heap.size + 1 = (w.alloc (.cells (cOp o) 31)).heap.size from (World.size_alloc ..).symm]; exact heap_alloc_new _ _)⟩; have by_ : Aside0 (w1.heap[w.heap.size + 1 + 1]? = some (.cells #[.int .u8 0, .int .u8 0, .int .u32 0, .int .u64 0] 44 (0, 0))) := ⟨hk1 _ _ _ (by have := H.out.lt; omega) (by decide) (by rw [show w.heap.size + 1 + 1 = ((w.alloc (.cells (cOp o) 31)).alloc (.cells #[.int .i64 x, .int .i64 y] 48)).heap.size by rw [World.size_alloc, World.size_alloc]]; exact heap_alloc_new _ _)⟩; obtain ⟨d0, d1⟩ := two_cells bx.out; clear hw1 hk1) | ((with_reducible refine gate_store (p := 13) (t := 48) rfl ?_); obtain ⟨hbx, vx, hwx, hrx⟩ := H1.out; refine store_blk rfl 48 (.tmp 13) (.tmp 11) rfl B 31 #[.int .i64 x, .int .i64 y] _ 51 rfl rfl hwx (by simp [wCells]) (by kernel_rfl) (by simp [Value.oneCell']) ?_; intro w2 e2 hw2; have H2 : Aside0 (WP B w0 { s with qs := s.qs ++ [1], l := o, a0 := x, a1 := y } w2) := ⟨by rw [e2]; exact H1.out.stamp x y⟩; have K2 : Aside0 (KB B w w2) := ⟨by rw [e2]; exact K1.out.sets 31 _⟩; have by2 : Aside0 (w2.heap[w.heap.size + 1 + 1]? = some (.cells #[.int .u8 0, .int .u8 0, .int .u32 0, .int .u64 0] 44 (0, 0))) := ⟨by rw [e2, far_setCells (by have := H.out.lt; omega)]; exact by_.out⟩; obtain ⟨r0, r1, r2, r3⟩ := H2.out.rep; clear hbx hwx hrx e2 hw2) | ((with_reducible refine gate_store (p := 6) (t := 44) rfl ?_); refine store_blk rfl 44 (.tmp 6) (.tmp 18) rfl (w.heap.size + 1 + 1) 0 #[.int .u8 s.t.rep.c, .int .u8 s.t.rep.a, .int .u32 s.t.rep.h, .int .u64 s.t.rep.p] _ 44 rfl rfl by2.out (by simp) (by kernel_rfl) (by simp [Value.oneCell']) ?_; intro w3 e3 hw3; have H3 : Aside0 (WP B w0 { s with qs := s.qs ++ [1], l := o, a0 := x, a1 := y } w3) := ⟨by rw [e3]; exact H2.out.other by2.out (by decide) (by have := H.out.lt; omega) 0 _⟩; have K3 : Aside0 (KB B w w3) := ⟨by rw [e3]; exact K2.out.other (by omega) 0 _⟩; obtain ⟨s0, s1, s2, s3⟩ := rep_cells (r := s.t.rep) hw3; clear e3 hw3))
  (try simp only [Exit.inBlock, Exit.then])
  refine bodyPost_ret (by simp [results, Try.results48, go_sem, s0, s1, s2, s3]; try rfl) rfl ?_
  exact ⟨rfl, H3.out, K3.out⟩
end Go.Proofs.Ytooddkaepkjidaa.QSt
