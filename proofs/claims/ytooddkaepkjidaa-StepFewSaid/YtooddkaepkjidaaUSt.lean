/- Step: the walk of StepFinishes; what the walks of the statements share. -/
import Derived.Test.YtooddkaepkjidaaASt
namespace Go.Proofs.Ytooddkaepkjidaa.QSt
open Go.RowKit Go.Proofs.YtooddkaepkjidaaW.PrintWords Go.Proofs.YtooddkaepkjidaaW.PrintLast Go.Proofs.YtooddkaepkjidaaW.PrintMore
set_option linter.unusedVariables false
set_option linter.unusedSimpArgs false
attribute [local go_sem] cs_off

/-- The boxes of a statement's arguments. -/
def LB (b : Nat) (t : STold) (o : SOp) (x y : Int) (w1 : World) : Prop :=
  w1.heap[b]? = some (.cells (cOp o) 31 (0, 0)) ∧ w1.heap[b + 1]? = some (.cells (cTold t) 46 (0, 0)) ∧ w1.heap[b + 1 + 1]? = some (.cells #[.int .i64 x, .int .i64 y] 48 (0, 0))
theorem LB.start (w : World) (t : STold) (o : SOp) (x y : Int) : LB w.heap.size t o x y (((w.alloc (.cells (cOp o) 31)).alloc (.cells (cTold t) 46)).alloc (.cells #[.int .i64 x, .int .i64 y] 48)) := by
  refine ⟨?_, ?_, ?_⟩
  · rw [heap_alloc_old _ _ (by simp only [World.size_alloc]; omega), heap_alloc_old _ _ (by simp only [World.size_alloc]; omega)]; exact heap_alloc_new _ _
  · rw [heap_alloc_old _ _ (by simp only [World.size_alloc]; omega), show w.heap.size + 1 = (w.alloc (.cells (cOp o) 31)).heap.size by simp only [World.size_alloc]]; exact heap_alloc_new _ _
  · rw [show w.heap.size + 1 + 1 = ((w.alloc (.cells (cOp o) 31)).alloc (.cells (cTold t) 46)).heap.size by simp only [World.size_alloc]]; exact heap_alloc_new _ _
theorem LB.kb {b B : Nat} {t : STold} {o : SOp} {x y : Int} {w1 w2 : World} (h : LB b t o x y w1) (hB : b + 1 + 1 < B) (k : KB B w1 w2) : LB b t o x y w2 :=
  ⟨k _ _ _ (by omega) (by decide) h.1, k _ _ _ (by omega) (by decide) h.2.1, k _ _ _ (by omega) (by decide) h.2.2⟩
theorem LB.below {b : Nat} {t : STold} {o : SOp} {x y : Int} {w1 w2 : World} (h : LB b t o x y w1) (hb : Below w1.heap.size w1 w2) : LB b t o x y w2 :=
  ⟨(hb.block _ (Array.getElem?_eq_some_iff.1 h.1).1).trans h.1, (hb.block _ (Array.getElem?_eq_some_iff.1 h.2.1).1).trans h.2.1, (hb.block _ (Array.getElem?_eq_some_iff.1 h.2.2).1).trans h.2.2⟩
/-- All that is kept: the world object in block wa.heap.size, the boxes. -/
def LW (w wa : World) (s : WS) (t : STold) (o : SOp) (x y : Int) (w1 : World) : Prop := Below w.heap.size w wa ∧ w.heap.size + 1 + 1 < wa.heap.size ∧ WP wa.heap.size wa s w1 ∧ LB w.heap.size t o x y w1
theorem LW.below {w wa w1 w2 : World} {s : WS} {t : STold} {o : SOp} {x y : Int} (h : LW w wa s t o x y w1) (hb : Below w1.heap.size w1 w2) : LW w wa s t o x y w2 := ⟨h.1, h.2.1, h.2.2.1.below hb, h.2.2.2.below hb⟩
theorem LW.kb {w wa w1 w2 : World} {s s' : WS} {t : STold} {o : SOp} {x y : Int} (h : LW w wa s t o x y w1) (hw : WP wa.heap.size wa s' w2) (k : KB wa.heap.size w1 w2) : LW w wa s' t o x y w2 := ⟨h.1, h.2.1, hw, h.2.2.2.kb h.2.1 k⟩
theorem LW.out {w wa w1 : World} {s : WS} {t : STold} {o : SOp} {x y : Int} (h : LW w wa s t o x y w1) : Below w.heap.size w w1 := below_step h.1 h.2.2.1.1
theorem LW.start (w : World) (t : STold) (o : SOp) (x y : Int) : LW w (((w.alloc (.cells (cOp o) 31)).alloc (.cells (cTold t) 46)).alloc (.cells #[.int .i64 x, .int .i64 y] 48)) (wNew t) t o x y ((((w.alloc (.cells (cOp o) 31)).alloc (.cells (cTold t) 46)).alloc (.cells #[.int .i64 x, .int .i64 y] 48)).alloc (.cells (wCells t (.slice none 0 0) SOp.zero 0 0 0) 51)) :=
  ⟨below_alloc (below_alloc (below_alloc (Below.refl _ _) _) _) _, by simp only [World.size_alloc]; omega, WP.new _ t, (LB.start w t o x y).below (below_alloc (Below.refl _ _) _)⟩
theorem S2.new (w : World) (O : SOp) (R : SRep) : S2 w.heap.size O R ((w.alloc (.cells (cOp O) 31)).alloc (.cells (cRep R) 44)) :=
  ⟨by rw [heap_alloc_old _ _ (by rw [World.size_alloc]; omega)]; exact heap_alloc_new _ _, by rw [show w.heap.size + 1 = (w.alloc (.cells (cOp O) 31)).heap.size by rw [World.size_alloc]]; exact heap_alloc_new _ _⟩
theorem S2.below {g : Nat} {O : SOp} {R : SRep} {w1 w2 : World} (h : S2 g O R w1) (hb : Below w1.heap.size w1 w2) : S2 g O R w2 :=
  ⟨(hb.block _ (Array.getElem?_eq_some_iff.1 h.1).1).trans h.1, (hb.block _ (Array.getElem?_eq_some_iff.1 h.2).1).trans h.2⟩
theorem below2 (w : World) (a b : Obj) : Below w.heap.size w ((w.alloc a).alloc b) := below_alloc (below_alloc (Below.refl _ _) _) _
/-- What the world was asked: as many. -/
theorem WP.asked_n {B : Nat} {w0 w : World} {s : WS} (h : WP B w0 s w) : ∃ A cap, w.cell? ⟨B, 18, none⟩ = some (.slice A s.qs.length cap) ∧ s.qs.length ≤ cap ∧ Kd.C (Kd.int .i64) w A s.qs.length s.qs := by
  obtain ⟨hb, v, hw, hrow⟩ := h
  obtain ⟨A, c', rfl, hc', hrd⟩ := own_reads_of_le (enc := Value.int .i64) (d := (0 : Int)) hrow
  exact ⟨A, c', by simp [World.cell?, hw, wCells], hc', Kd.C_of_reads (h1 := fun _ => rfl) hrd⟩

attribute [local go_sem high] eqA31 eqA44
set_option maxRecDepth 100000 in
set_option maxHeartbeats 2000000 in
theorem StepFinishes_core (o : SOp) (t : STold) (x y : Int) (w : World) : Calls Try.prog 5 #[vOp o, vTold t, .agg #[.int .i64 x, .int .i64 y]] w fun e w' => e = .returned (.bool true) ∧ Below w.heap.size w w' := by
  obtain ⟨O, R, b, e, S, hF⟩ : ∃ O R b e S, finR x y 3 (wNew t) o = ((O, R, b, e), S) := ⟨_, _, _, _, _, rfl⟩
  have HF := Aside0.mk hF
  have HR : Aside0 (rfin t 3 o = (O, R, b, e)) := ⟨by rw [show t = (wNew t).t from rfl, ← finR_fst x y, hF]⟩
  clear hF
  go_enter Try.func5, Try.ntmps5
  go_upto_region 2 with fail
  have HX := Aside0.mk (LW.start w t o x y)
  change Code.wp Try.prog _ _ _ ((((w.alloc (.cells (cOp o) 31)).alloc (.cells (cTold t) 46)).alloc (.cells #[.int .i64 x, .int .i64 y] 48)).alloc (.cells (wCells t (.slice none 0 0) SOp.zero 0 0 0) 51))
  have hn : Aside0 (w.heap.size + 1 + 1 + 1 = (((w.alloc (.cells (cOp o) 31)).alloc (.cells (cTold t) 46)).alloc (.cells #[.int .i64 x, .int .i64 y] 48)).heap.size) := ⟨by simp only [World.size_alloc]⟩
  rw [hn.out]
  clear hn
  generalize ((w.alloc (.cells (cOp o) 31)).alloc (.cells (cTold t) 46)).alloc (.cells #[.int .i64 x, .int .i64 y] 48) = wa at HX ⊢
  generalize wa.alloc (.cells (wCells t (.slice none 0 0) SOp.zero 0 0 0) 51) = wb at HX ⊢
  go_upto_region 3 with (first | ((with_reducible refine gate_ (.load 31 (.tmp 3)) rfl ?_); refine load_blk rfl 31 (.tmp 3) rfl w.heap.size _ 31 rfl _ HX.out.2.2.2.1 Try.underlying31 rfl (by kernel_rfl) ?_) | ((with_reducible refine gate_ (.load 48 (.tmp 5)) rfl ?_); refine load_blk rfl 48 (.tmp 5) rfl (w.heap.size + 1 + 1) _ 48 rfl _ HX.out.2.2.2.2.2 Try.underlying48 rfl (by kernel_rfl) ?_) | (go_at_call 19; refine (Finish_calls wa.heap.size (wNew t) o x y wa wb HX.out.2.2.1 (by show 0 < 900; omega) _ _ _ _ _ HF.out).mono ?_; rintro e4 w4 ⟨rfl, ⟨rr, hw4⟩, hk4, hq4⟩; have HY := Aside0.mk (HX.out.kb hw4 hk4); have HQ := Aside0.mk hq4; clear hw4 hk4 hq4))
  change Code.wp Try.prog _ _ _ ((w4.alloc (.cells (cOp O) 31)).alloc (.cells (cRep R) 44))
  have HZ := Aside0.mk (And.intro (HY.out.below (below2 w4 (.cells (cOp O) 31) (.cells (cRep R) 44))) (S2.new w4 O R))
  clear HX HY
  generalize ((w4.alloc (.cells (cOp O) 31)).alloc (.cells (cRep R) 44)) = w5 at HZ ⊢
  generalize w4.heap.size = g4 at HZ ⊢
  go_upto_region 4 with (first | ((with_reducible refine gate_ (.load 31 (.tmp 3)) rfl ?_); refine load_blk rfl 31 (.tmp 3) rfl w.heap.size _ 31 rfl _ HZ.out.1.2.2.2.1 Try.underlying31 rfl (by kernel_rfl) ?_) | ((with_reducible refine gate_ (.load 46 (.tmp 4)) rfl ?_); refine load_blk rfl 46 (.tmp 4) rfl (w.heap.size + 1) _ 46 rfl _ HZ.out.1.2.2.2.2.1 Try.underlying46 rfl (by kernel_rfl) ?_) | (go_at_call 20; refine (RFinish_calls t o _ _ _ _ _ HR.out).mono ?_; rintro e6 w6 ⟨rfl, hb6⟩; have HU := Aside0.mk (And.intro (HZ.out.1.below hb6) (HZ.out.2.below hb6)); clear hb6))
  change Code.wp Try.prog _ _ _ ((w6.alloc (.cells (cOp O) 31)).alloc (.cells (cRep R) 44))
  have HV := Aside0.mk (And.intro (HU.out.1.below (below2 w6 (.cells (cOp O) 31) (.cells (cRep R) 44))) (And.intro (HU.out.2.below (below2 w6 (.cells (cOp O) 31) (.cells (cRep R) 44))) (S2.new w6 O R)))
  clear HZ HU
  generalize ((w6.alloc (.cells (cOp O) 31)).alloc (.cells (cRep R) 44)) = w7 at HV ⊢
  generalize w6.heap.size = g6 at HV ⊢
  obtain ⟨z0, z1, z2, z3, z4, z5, z6, z7, z8, z9, z10, z11⟩ := op_cells HV.out.2.1.1
  obtain ⟨y0, y1, y2, y3⟩ := rep_cells HV.out.2.1.2
  obtain ⟨u0, u1, u2, u3, u4, u5, u6, u7, u8, u9, u10, u11⟩ := op_cells HV.out.2.2.1
  obtain ⟨v0, v1, v2, v3⟩ := rep_cells HV.out.2.2.2
  obtain ⟨A, cap, q0, q1, q2⟩ := HV.out.1.2.2.1.asked_n
  have hq : decide ((S.qs.length : Int) ≤ 3) = true := decide_eq_true (by have := HQ.out; simp [wNew] at this; omega)
  clear q1 q2
  dsimp only at q0
  go_wp2_with (first | (go_at_call 14; refine (alive_calls _).mono ?_; rintro e8 w8 ⟨rfl, hb8⟩; have HE := Aside0.mk (below_step HV.out.1.out hb8); clear hb8))
  go_ret
  exact ⟨rfl, HE.out⟩
theorem StepFinishes_walk (a0 a1 a2 a3 a4 a5 a6 a7 a8 a9 a10 a11 b0 b1 b2 b3 b4 b5 b6 b7 b8 b9 b10 b11 b12 b13 b14 b15 b16 : Int) (b17 : Bool) (x y : Int) (w : World) {P0 P1 P2 : Prop} (_h0 : P0) (_h1 : P1) (_h2 : P2) :
    Calls Try.prog 5 #[.agg #[.int .i64 a0, .int .u8 a1, .int .u8 a2, .int .u8 a3, .int .u32 a4, .int .u64 a5, .int .i64 a6, .int .i64 a7, .int .i64 a8, .int .u64 a9, .int .u64 a10, .int .u64 a11], .agg #[.int .u8 b0, .int .u8 b1, .int .u32 b2, .int .u64 b3, .int .i64 b4, .int .u8 b5, .int .u8 b6, .int .u8 b7, .int .u32 b8, .int .u64 b9, .int .i64 b10, .int .i64 b11, .int .i64 b12, .int .u64 b13, .int .u64 b14, .int .u64 b15, .int .u8 b16, .bool b17], .agg #[.int .i64 x, .int .i64 y]] w fun e w' => e = .returned (.bool true) ∧ Below w.heap.size w w' :=
  StepFinishes_core ⟨a0, a1, a2, a3, a4, a5, a6, a7, a8, a9, a10, a11⟩ ⟨⟨b0, b1, b2, b3⟩, ⟨b4, b5, b6, b7, b8, b9, b10, b11, b12, b13, b14, b15⟩, b16, b17⟩ x y w
end Go.Proofs.Ytooddkaepkjidaa.QSt
