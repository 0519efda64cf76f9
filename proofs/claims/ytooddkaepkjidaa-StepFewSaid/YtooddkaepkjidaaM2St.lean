/- Step: the methods of the world that find something. -/
import Derived.Test.YtooddkaepkjidaaMSt
namespace Go.Proofs.Ytooddkaepkjidaa.QSt
open Go.RowKit Go.Proofs.YtooddkaepkjidaaW.PrintWords Go.Proofs.YtooddkaepkjidaaW.PrintLast Go.Proofs.YtooddkaepkjidaaW.PrintMore
set_option linter.unusedVariables false
set_option linter.unusedSimpArgs false
theorem cs_off (w : World) (b i j : Nat) (v : Value) (h : i ≠ j) : (w.setCell ⟨b, i, none⟩ v).cell? ⟨b, j, none⟩ = w.cell? ⟨b, j, none⟩ := World.cell?_setCell_other w _ _ v (by simp [h])
theorem cs_far (w : World) (b i b' j : Nat) (v : Value) (h : b ≠ b') : (w.setCell ⟨b, i, none⟩ v).cell? ⟨b', j, none⟩ = w.cell? ⟨b', j, none⟩ := World.cell?_setCell_other w _ _ v (by simp [h])
attribute [local go_sem] cs_off

theorem WP.told {B : Nat} {w0 w : World} {s : WS} (h : WP B w0 s w) : w.cell? ⟨B, 4, none⟩ = some (.int .i64 s.t.op.n) ∧ w.cell? ⟨B, 5, none⟩ = some (.int .u8 s.t.op.k) ∧ w.cell? ⟨B, 6, none⟩ = some (.int .u8 s.t.op.a) ∧ w.cell? ⟨B, 7, none⟩ = some (.int .u8 s.t.op.r) ∧ w.cell? ⟨B, 8, none⟩ = some (.int .u32 s.t.op.h) ∧ w.cell? ⟨B, 9, none⟩ = some (.int .u64 s.t.op.p) ∧ w.cell? ⟨B, 10, none⟩ = some (.int .i64 s.t.op.nx) ∧ w.cell? ⟨B, 11, none⟩ = some (.int .i64 s.t.op.ch) ∧ w.cell? ⟨B, 12, none⟩ = some (.int .i64 s.t.op.ln) ∧ w.cell? ⟨B, 13, none⟩ = some (.int .u64 s.t.op.sq) ∧ w.cell? ⟨B, 14, none⟩ = some (.int .u64 s.t.op.ep) ∧ w.cell? ⟨B, 15, none⟩ = some (.int .u64 s.t.op.pl) ∧ w.cell? ⟨B, 16, none⟩ = some (.int .u8 s.t.code) := by
  obtain ⟨hb, v, hw, hrow⟩ := h
  refine ⟨?_, ?_, ?_, ?_, ?_, ?_, ?_, ?_, ?_, ?_, ?_, ?_, ?_⟩ <;> simp [World.cell?, hw, wCells]
def SOp.zero : SOp := ⟨0, 0, 0, 0, 0, 0, 0, 0, 0, 0, 0, 0⟩
theorem op_frozen {w : World} {b : Nat} {cs : Array Value} {t : TypeId} (h : w.heap[b]? = some (.cells cs t (0, 0))) (j : Nat) : w.frozen? ⟨b, j, none⟩ = false := by simp [World.frozen?, h]

set_option maxRecDepth 100000 in
set_option maxHeartbeats 2000000 in
theorem Claim_calls (B : Nat) (s : WS) (o : SOp) (w0 w : World) (h : WP B w0 s w) (hl : s.qs.length < 1000) :
    Calls Try.prog 47 #[.pointer (some ⟨B, 0, none⟩), vOp o] w fun e w' => e = .returned (.tuple #[vOp s.t.op, .int .u8 s.t.code]) ∧ WP B w0 { s with qs := s.qs ++ [2], l := o } w' ∧ KB B w w' := by
  have H := Aside0.mk h
  clear h
  go_enter Try.func47, Try.ntmps47
  go_wp2_with (go_at_call 54; refine (note_calls B s 2 o w0 _ ((H.out.alloc _).alloc _) hl).mono ?_; rintro e w1 ⟨rfl, hw1, hk1⟩; have H1 := Aside0.mk hw1; have K1 : Aside0 (KB B w w1) := ⟨(((KB.refl B w).alloc _).alloc _).trans hk1⟩; have bx : Aside0 (w1.heap[w.heap.size + 1]? = some (.cells (cOp SOp.zero) 31 (0, 0))) := ⟨hk1 _ _ _ (by have := H.out.lt; omega) (by decide) (by rw [show w.heap.size + 1 = (w.alloc (.cells (cOp o) 31)).heap.size from (World.size_alloc ..).symm]; exact heap_alloc_new _ _)⟩; clear hw1 hk1)
  have hbn : Aside0 (B < w.heap.size) := ⟨H.out.lt⟩
  obtain ⟨g, hg⟩ : ∃ g, w.heap.size + 1 = g := ⟨_, rfl⟩
  rw [hg] at bx ⊢
  have HG := Aside0.mk hg
  obtain ⟨z0, z1, z2, z3, z4, z5, z6, z7, z8, z9, z10, z11⟩ := op_cells bx.out
  have zf := op_frozen bx.out
  obtain ⟨t4, t5, t6, t7, t8, t9, t10, t11, t12, t13, t14, t15, t16⟩ := H1.out.told
  have hfar : ∀ (W : World) (i j : Nat) (v : Value), (W.setCell ⟨g, i, none⟩ v).cell? ⟨B, j, none⟩ = W.cell? ⟨B, j, none⟩ := fun W i j v => cs_far W g i B j v (by have := hbn.out; omega)
  clear hg
  go_region
  have e3 : ∀ W : World, W = w1.setCells g 0 (cOp s.t.op).toList → WP B w0 { s with qs := s.qs ++ [2], l := o } W ∧ KB B w W ∧ W.heap[g]? = some (.cells (cOp s.t.op) 31 (0, 0)) := fun W e => by
    subst e
    refine ⟨H1.out.other bx.out (by decide) (by have := hbn.out; have := HG.out; omega) 0 _, K1.out.other (by have := HG.out; omega) 0 _, (blk_setCells _ _ _ _ bx.out).trans ?_⟩
    simp only [cOp, SOp.zero, List.toList_toArray, setAll, List.setIfInBounds_toArray, List.set_cons_succ, List.set_cons_zero]
  change Exit.then _ _ Exit.normal _ (w1.setCells g 0 (cOp s.t.op).toList).drew
  obtain ⟨H3, K3, b3⟩ := e3 _ rfl
  generalize w1.setCells g 0 (cOp s.t.op).toList = w3 at H3 K3 b3 ⊢
  clear e3 hfar z0 z1 z2 z3 z4 z5 z6 z7 z8 z9 z10 z11 zf t4 t5 t6 t7 t8 t9 t10 t11 t12 t13 t14 t15 t16
  obtain ⟨z0, z1, z2, z3, z4, z5, z6, z7, z8, z9, z10, z11⟩ := op_cells b3
  go_wp2
  (try simp only [Exit.inBlock, Exit.then])
  refine bodyPost_ret (by simp [results, Try.results47, go_sem, z0, z1, z2, z3, z4, z5, z6, z7, z8, z9, z10, z11]; try rfl) rfl ?_
  exact ⟨rfl, H3.drewN 1, K3.trans (KB.of_below (pw_below_drewN (Below.refl _ _) 1))⟩
set_option maxRecDepth 100000 in
set_option maxHeartbeats 2000000 in
theorem Take_calls (B : Nat) (s : WS) (o : SOp) (w0 w : World) (h : WP B w0 s w) (hl : s.qs.length < 1000) :
    Calls Try.prog 52 #[.pointer (some ⟨B, 0, none⟩), vOp o] w fun e w' => e = .returned (.tuple #[vOp s.t.op, .int .u8 s.t.code]) ∧ WP B w0 { s with qs := s.qs ++ [5], l := o } w' ∧ KB B w w' := by
  have H := Aside0.mk h
  clear h
  go_enter Try.func52, Try.ntmps52
  go_wp2_with (go_at_call 54; refine (note_calls B s 5 o w0 _ ((H.out.alloc _).alloc _) hl).mono ?_; rintro e w1 ⟨rfl, hw1, hk1⟩; have H1 := Aside0.mk hw1; have K1 : Aside0 (KB B w w1) := ⟨(((KB.refl B w).alloc _).alloc _).trans hk1⟩; have bx : Aside0 (w1.heap[w.heap.size + 1]? = some (.cells (cOp SOp.zero) 31 (0, 0))) := ⟨hk1 _ _ _ (by have := H.out.lt; omega) (by decide) (by rw [show w.heap.size + 1 = (w.alloc (.cells (cOp o) 31)).heap.size from (World.size_alloc ..).symm]; exact heap_alloc_new _ _)⟩; clear hw1 hk1)
  have hbn : Aside0 (B < w.heap.size) := ⟨H.out.lt⟩
  obtain ⟨g, hg⟩ : ∃ g, w.heap.size + 1 = g := ⟨_, rfl⟩
  rw [hg] at bx ⊢
  have HG := Aside0.mk hg
  obtain ⟨z0, z1, z2, z3, z4, z5, z6, z7, z8, z9, z10, z11⟩ := op_cells bx.out
  have zf := op_frozen bx.out
  obtain ⟨t4, t5, t6, t7, t8, t9, t10, t11, t12, t13, t14, t15, t16⟩ := H1.out.told
  have hfar : ∀ (W : World) (i j : Nat) (v : Value), (W.setCell ⟨g, i, none⟩ v).cell? ⟨B, j, none⟩ = W.cell? ⟨B, j, none⟩ := fun W i j v => cs_far W g i B j v (by have := hbn.out; omega)
  clear hg
  go_region
  have e3 : ∀ W : World, W = w1.setCells g 0 (cOp s.t.op).toList → WP B w0 { s with qs := s.qs ++ [5], l := o } W ∧ KB B w W ∧ W.heap[g]? = some (.cells (cOp s.t.op) 31 (0, 0)) := fun W e => by
    subst e
    refine ⟨H1.out.other bx.out (by decide) (by have := hbn.out; have := HG.out; omega) 0 _, K1.out.other (by have := HG.out; omega) 0 _, (blk_setCells _ _ _ _ bx.out).trans ?_⟩
    simp only [cOp, SOp.zero, List.toList_toArray, setAll, List.setIfInBounds_toArray, List.set_cons_succ, List.set_cons_zero]
  change Exit.then _ _ Exit.normal _ (w1.setCells g 0 (cOp s.t.op).toList).drew
  obtain ⟨H3, K3, b3⟩ := e3 _ rfl
  generalize w1.setCells g 0 (cOp s.t.op).toList = w3 at H3 K3 b3 ⊢
  clear e3 hfar z0 z1 z2 z3 z4 z5 z6 z7 z8 z9 z10 z11 zf t4 t5 t6 t7 t8 t9 t10 t11 t12 t13 t14 t15 t16
  obtain ⟨z0, z1, z2, z3, z4, z5, z6, z7, z8, z9, z10, z11⟩ := op_cells b3
  go_wp2
  (try simp only [Exit.inBlock, Exit.then])
  refine bodyPost_ret (by simp [results, Try.results52, go_sem, z0, z1, z2, z3, z4, z5, z6, z7, z8, z9, z10, z11]; try rfl) rfl ?_
  exact ⟨rfl, H3.drewN 1, K3.trans (KB.of_below (pw_below_drewN (Below.refl _ _) 1))⟩
end Go.Proofs.Ytooddkaepkjidaa.QSt
