/- Step: the walk of StepNobody. -/
import Derived.Test.YtooddkaepkjidaaUSt
namespace Go.Proofs.Ytooddkaepkjidaa.QSt
open Go.RowKit Go.Proofs.YtooddkaepkjidaaW.PrintWords Go.Proofs.YtooddkaepkjidaaW.PrintLast Go.Proofs.YtooddkaepkjidaaW.PrintMore
set_option linter.unusedVariables false
set_option linter.unusedSimpArgs false
attribute [local go_sem] cs_off

set_option maxRecDepth 100000 in
set_option maxHeartbeats 1000000 in
theorem Enabled_nil (o : SOp) (w : World) : Calls Try.prog 15 #[.nilIface, vOp o] w fun e w' => e = .returned (.bool false) ∧ Below w.heap.size w w' := by
  go_enter Try.func15, Try.ntmps15
  go_wp2
  go_ret
  exact ⟨rfl, below_alloc (Below.refl _ _) _⟩
set_option maxRecDepth 100000 in
set_option maxHeartbeats 1000000 in
theorem Do_nil (o : SOp) (x y : Int) (w : World) : Calls Try.prog 17 #[.nilIface, vOp o, .agg #[.int .i64 x, .int .i64 y]] w fun e w' => e = .returned (.tuple #[vOp SOp.zero, vRep SRep.zero, .bool false, .int .i64 4]) ∧ Below w.heap.size w w' := by
  go_enter Try.func17, Try.ntmps17
  go_wp2
  go_returns
  refine ⟨?_, ?_⟩
  · rfl
  · repeat (first | exact Below.refl _ _ | apply below_alloc | apply pw_below_drewN | apply below_drew1)
/-- The boxes of Finish. -/
def BN (w : World) (o : SOp) (x y : Int) (O : SOp) (R : SRep) (w1 : World) : Prop :=
  w1.heap[w.heap.size]? = some (.cells (cOp o) 31 (0, 0)) ∧ w1.heap[w.heap.size + 1]? = some (.cells #[.int .i64 x, .int .i64 y] 48 (0, 0)) ∧ w1.heap[w.heap.size + 1 + 1]? = some (.cells (cOp O) 31 (0, 0)) ∧ w1.heap[w.heap.size + 1 + 1 + 1]? = some (.cells (cRep R) 44 (0, 0)) ∧ Below w.heap.size w w1
theorem BN.start (w : World) (o : SOp) (x y : Int) : BN w o x y SOp.zero SRep.zero ((((w.alloc (.cells (cOp o) 31)).alloc (.cells #[.int .i64 x, .int .i64 y] 48)).alloc (.cells (cOp SOp.zero) 31)).alloc (.cells (cRep SRep.zero) 44)) := by
  refine ⟨?_, ?_, ?_, ?_, below_alloc (below_alloc (below_alloc (below_alloc (Below.refl _ _) _) _) _) _⟩
  · rw [heap_alloc_old _ _ (by simp only [World.size_alloc]; omega), heap_alloc_old _ _ (by simp only [World.size_alloc]; omega), heap_alloc_old _ _ (by simp only [World.size_alloc]; omega)]; exact heap_alloc_new _ _
  · rw [heap_alloc_old _ _ (by simp only [World.size_alloc]; omega), heap_alloc_old _ _ (by simp only [World.size_alloc]; omega), show w.heap.size + 1 = (w.alloc (.cells (cOp o) 31)).heap.size by simp only [World.size_alloc]]; exact heap_alloc_new _ _
  · rw [heap_alloc_old _ _ (by simp only [World.size_alloc]; omega), show w.heap.size + 1 + 1 = ((w.alloc (.cells (cOp o) 31)).alloc (.cells #[.int .i64 x, .int .i64 y] 48)).heap.size by simp only [World.size_alloc]]; exact heap_alloc_new _ _
  · rw [show w.heap.size + 1 + 1 + 1 = (((w.alloc (.cells (cOp o) 31)).alloc (.cells #[.int .i64 x, .int .i64 y] 48)).alloc (.cells (cOp SOp.zero) 31)).heap.size by simp only [World.size_alloc]]; exact heap_alloc_new _ _
theorem BN.below {w w1 w2 : World} {o O : SOp} {x y : Int} {R : SRep} (h : BN w o x y O R w1) (hb : Below w1.heap.size w1 w2) : BN w o x y O R w2 :=
  ⟨(hb.block _ (Array.getElem?_eq_some_iff.1 h.1).1).trans h.1, (hb.block _ (Array.getElem?_eq_some_iff.1 h.2.1).1).trans h.2.1, (hb.block _ (Array.getElem?_eq_some_iff.1 h.2.2.1).1).trans h.2.2.1, (hb.block _ (Array.getElem?_eq_some_iff.1 h.2.2.2.1).1).trans h.2.2.2.1, below_step h.2.2.2.2 hb⟩
theorem BN.st1 {w w1 : World} {o O : SOp} {x y : Int} {R : SRep} (h : BN w o x y O R w1) (O' : SOp) : BN w o x y O' R (w1.setCells (w.heap.size + 1 + 1) 0 (cOp O').toList) :=
  ⟨(far_setCells (by omega) _ 0 w1).trans h.1, (far_setCells (by omega) _ 0 w1).trans h.2.1, by rw [blk_setCells _ 0 _ w1 h.2.2.1, setOp (cOp O) O' (by simp)], (far_setCells (by omega) _ 0 w1).trans h.2.2.2.1, below_setCells (by omega) _ _ _ h.2.2.2.2⟩
theorem BN.st2 {w w1 : World} {o O : SOp} {x y : Int} {R : SRep} (h : BN w o x y O R w1) (R' : SRep) : BN w o x y O R' (w1.setCells (w.heap.size + 1 + 1 + 1) 0 (cRep R').toList) :=
  ⟨(far_setCells (by omega) _ 0 w1).trans h.1, (far_setCells (by omega) _ 0 w1).trans h.2.1, (far_setCells (by omega) _ 0 w1).trans h.2.2.1, by rw [blk_setCells _ 0 _ w1 h.2.2.2.1, setRep (cRep R) R' (by simp)], below_setCells (by omega) _ _ _ h.2.2.2.2⟩
set_option maxRecDepth 100000 in
set_option maxHeartbeats 1000000 in
theorem Finish_nil (o : SOp) (x y : Int) (w : World) : Calls Try.prog 19 #[.nilIface, vOp o, .agg #[.int .i64 x, .int .i64 y]] w fun e w' => e = .returned (.tuple #[vOp o, vRep SRep.zero, .bool false, .int .i64 4]) ∧ Below w.heap.size w w' := by
  have HS := Aside0.mk (BN.start w o x y)
  go_enter Try.func19, Try.ntmps19
  go_wp2
  change Code.wp Try.prog _ _ _ ((((w.alloc (.cells (cOp o) 31)).alloc (.cells #[.int .i64 x, .int .i64 y] 48)).alloc (.cells (cOp SOp.zero) 31)).alloc (.cells (cRep SRep.zero) 44))
  generalize ((((w.alloc (.cells (cOp o) 31)).alloc (.cells #[.int .i64 x, .int .i64 y] 48)).alloc (.cells (cOp SOp.zero) 31)).alloc (.cells (cRep SRep.zero) 44)) = w2 at HS ⊢
  go_loopw [] (fun wr => Aside0 (BN w o x y SOp.zero SRep.zero wr)) (fun _ => 0)
  case atStart => exact HS
  case round =>
    go_upto_region 2 with (first | ((with_reducible refine gate_ (.load 31 (.tmp 4)) rfl ?_); refine load_blk rfl 31 (.tmp 4) rfl w.heap.size _ 31 rfl _ hrel.out.1 Try.underlying31 rfl (by kernel_rfl) ?_) | ((with_reducible refine gate_ (.load 48 (.tmp 5)) rfl ?_); refine load_blk rfl 48 (.tmp 5) rfl (w.heap.size + 1) _ 48 rfl _ hrel.out.2.1 Try.underlying48 rfl (by kernel_rfl) ?_) | (go_at_call 17; refine (Do_nil o x y _).mono ?_; rintro e w3 ⟨rfl, hb3⟩; have HX := Aside0.mk (hrel.out.below hb3); clear hb3))
    change Code.wp Try.prog _ _ _ ((w3.alloc (.cells (cOp SOp.zero) 31)).alloc (.cells (cRep SRep.zero) 44))
    have HU := Aside0.mk (HX.out.below (below2 w3 (.cells (cOp SOp.zero) 31) (.cells (cRep SRep.zero) 44)))
    generalize ((w3.alloc (.cells (cOp SOp.zero) 31)).alloc (.cells (cRep SRep.zero) 44)) = w4 at HU ⊢
    go_wp2_with (first | ((with_reducible refine gate_ (.load 31 (.tmp 4)) rfl ?_); refine load_blk rfl 31 (.tmp 4) rfl w.heap.size _ 31 rfl _ HU.out.1 Try.underlying31 rfl (by kernel_rfl) ?_) | ((with_reducible refine gate_store (p := 6) (t := 31) rfl ?_); refine store_blk rfl 31 (.tmp 6) (.tmp 31) rfl (w.heap.size + 1 + 1) 0 (cOp o) _ 31 rfl rfl HU.out.2.2.1 (by simp) (by kernel_rfl) (by simp [Value.oneCell']) ?_; intro w5 e5 hw5; have HQ := Aside0.mk (HU.out.st1 o); rw [← show w5 = _ from e5] at HQ; clear e5 hw5) | ((with_reducible refine gate_store (p := 7) (t := 44) rfl ?_); refine store_blk rfl 44 (.tmp 7) (.tmp 32) rfl (w.heap.size + 1 + 1 + 1) 0 (cRep SRep.zero) _ 44 rfl rfl HQ.out.2.2.2.1 (by simp) (by kernel_rfl) (by simp [Value.oneCell']) ?_; intro w6 e6 hw6; have HR := Aside0.mk (HQ.out.st2 SRep.zero); rw [← show w6 = _ from e6] at HR; clear e6 hw6))
    obtain ⟨c4, c3, c1, c2, hb⟩ := HR.out
    obtain ⟨z0, z1, z2, z3, z4, z5, z6, z7, z8, z9, z10, z11⟩ := op_cells c1
    obtain ⟨y0, y1, y2, y3⟩ := rep_cells (r := SRep.zero) c2
    (try simp only [Exit.inBlock, Exit.then])
    refine bodyPost_ret (by simp [results, Try.results19, go_sem, z0, z1, z2, z3, z4, z5, z6, z7, z8, z9, z10, z11, y0, y1, y2, y3]; try rfl) rfl ?_
    exact ⟨by first | rfl | simp, hb⟩

def LN (b : Nat) (o : SOp) (x y : Int) (w1 : World) : Prop := w1.heap[b]? = some (.cells (cOp o) 31 (0, 0)) ∧ w1.heap[b + 1]? = some (.cells #[.int .i64 x, .int .i64 y] 48 (0, 0))
theorem LN.start (w : World) (o : SOp) (x y : Int) : LN w.heap.size o x y ((w.alloc (.cells (cOp o) 31)).alloc (.cells #[.int .i64 x, .int .i64 y] 48)) :=
  ⟨by rw [heap_alloc_old _ _ (by rw [World.size_alloc]; omega)]; exact heap_alloc_new _ _, by rw [show w.heap.size + 1 = (w.alloc (.cells (cOp o) 31)).heap.size by rw [World.size_alloc]]; exact heap_alloc_new _ _⟩
theorem LN.below {b : Nat} {o : SOp} {x y : Int} {w1 w2 : World} (h : LN b o x y w1) (hb : Below w1.heap.size w1 w2) : LN b o x y w2 :=
  ⟨(hb.block _ (Array.getElem?_eq_some_iff.1 h.1).1).trans h.1, (hb.block _ (Array.getElem?_eq_some_iff.1 h.2).1).trans h.2⟩
attribute [local go_sem high] eqA31 eqA44
set_option maxRecDepth 100000 in
set_option maxHeartbeats 2000000 in
theorem StepNobody_core (o : SOp) (x y : Int) (w : World) : Calls Try.prog 7 #[vOp o, .agg #[.int .i64 x, .int .i64 y]] w fun e w' => e = .returned (.bool true) ∧ Below w.heap.size w w' := by
  have HS := Aside0.mk (And.intro (LN.start w o x y) (below2 w (.cells (cOp o) 31) (.cells #[.int .i64 x, .int .i64 y] 48)))
  go_enter Try.func7, Try.ntmps7
  go_upto_region 1 with fail
  change Code.wp Try.prog _ _ _ ((w.alloc (.cells (cOp o) 31)).alloc (.cells #[.int .i64 x, .int .i64 y] 48))
  generalize ((w.alloc (.cells (cOp o) 31)).alloc (.cells #[.int .i64 x, .int .i64 y] 48)) = wb at HS ⊢
  go_upto_region 2 with (first | ((with_reducible refine gate_ (.load 31 (.tmp 2)) rfl ?_); refine load_blk rfl 31 (.tmp 2) rfl w.heap.size _ 31 rfl _ HS.out.1.1 Try.underlying31 rfl (by kernel_rfl) ?_) | ((with_reducible refine gate_ (.load 48 (.tmp 3)) rfl ?_); refine load_blk rfl 48 (.tmp 3) rfl (w.heap.size + 1) _ 48 rfl _ HS.out.1.2 Try.underlying48 rfl (by kernel_rfl) ?_) | (go_at_call 17; refine (Do_nil o x y _).mono ?_; rintro e4 w4 ⟨rfl, hb4⟩; have HY := Aside0.mk (And.intro (HS.out.1.below hb4) (below_step HS.out.2 hb4)); clear hb4))
  change Code.wp Try.prog _ _ _ ((w4.alloc (.cells (cOp SOp.zero) 31)).alloc (.cells (cRep SRep.zero) 44))
  have HZ := Aside0.mk (And.intro (And.intro (HY.out.1.below (below2 w4 (.cells (cOp SOp.zero) 31) (.cells (cRep SRep.zero) 44))) (below_step HY.out.2 (below2 w4 (.cells (cOp SOp.zero) 31) (.cells (cRep SRep.zero) 44)))) (S2.new w4 SOp.zero SRep.zero))
  clear HS HY
  generalize ((w4.alloc (.cells (cOp SOp.zero) 31)).alloc (.cells (cRep SRep.zero) 44)) = w5 at HZ ⊢
  generalize w4.heap.size = g4 at HZ ⊢
  go_upto_region 3 with (first | ((with_reducible refine gate_ (.load 31 (.tmp 2)) rfl ?_); refine load_blk rfl 31 (.tmp 2) rfl w.heap.size _ 31 rfl _ HZ.out.1.1.1 Try.underlying31 rfl (by kernel_rfl) ?_) | ((with_reducible refine gate_ (.load 48 (.tmp 3)) rfl ?_); refine load_blk rfl 48 (.tmp 3) rfl (w.heap.size + 1) _ 48 rfl _ HZ.out.1.1.2 Try.underlying48 rfl (by kernel_rfl) ?_) | (go_at_call 19; refine (Finish_nil o x y _).mono ?_; rintro e6 w6 ⟨rfl, hb6⟩; have HU := Aside0.mk (And.intro (HZ.out.1.1.below hb6) (And.intro (below_step HZ.out.1.2 hb6) (HZ.out.2.below hb6))); clear hb6))
  change Code.wp Try.prog _ _ _ ((w6.alloc (.cells (cOp o) 31)).alloc (.cells (cRep SRep.zero) 44))
  have HV := Aside0.mk (And.intro (HU.out.1.below (below2 w6 (.cells (cOp o) 31) (.cells (cRep SRep.zero) 44))) (And.intro (below_step HU.out.2.1 (below2 w6 (.cells (cOp o) 31) (.cells (cRep SRep.zero) 44))) (And.intro (HU.out.2.2.below (below2 w6 (.cells (cOp o) 31) (.cells (cRep SRep.zero) 44))) (S2.new w6 o SRep.zero))))
  clear HZ HU
  generalize ((w6.alloc (.cells (cOp o) 31)).alloc (.cells (cRep SRep.zero) 44)) = w7 at HV ⊢
  generalize w6.heap.size = g6 at HV ⊢
  obtain ⟨z0, z1, z2, z3, z4, z5, z6, z7, z8, z9, z10, z11⟩ := op_cells HV.out.1.1
  go_wp2_with (first | (go_at_call 15; refine (Enabled_nil o _).mono ?_; rintro e8 w8 ⟨rfl, hb8⟩; have HW := Aside0.mk (And.intro (HV.out.1.below hb8) (And.intro (below_step HV.out.2.1 hb8) (And.intro (HV.out.2.2.1.below hb8) (HV.out.2.2.2.below hb8)))); clear hb8 z0 z1 z2 z3 z4 z5 z6 z7 z8 z9 z10 z11; obtain ⟨z0, z1, z2, z3, z4, z5, z6, z7, z8, z9, z10, z11⟩ := op_cells HW.out.1.1; obtain ⟨u0, u1, u2, u3, u4, u5, u6, u7, u8, u9, u10, u11⟩ := op_cells HW.out.2.2.1.1; obtain ⟨v0, v1, v2, v3⟩ := rep_cells HW.out.2.2.1.2; obtain ⟨s0, s1, s2, s3, s4, s5, s6, s7, s8, s9, s10, s11⟩ := op_cells HW.out.2.2.2.1; obtain ⟨r0, r1, r2, r3⟩ := rep_cells HW.out.2.2.2.2) | (go_at_call 22; refine (rampartlaw17_send.calls 3 0 0 0 9 _ rfl).mono ?_; rintro e9 w9 ⟨rfl, hb9⟩; have H9 := Aside0.mk (below_step HW.out.2.1 hb9); clear hb9) | (go_at_call 21; refine (rampartref03_Is.calls 9 3 0 0 0 9 true _ (is_ok 3 0 0 0 9)).mono ?_; rintro e10 w10 ⟨rfl, hb10⟩; have H10 := Aside0.mk (below_step H9.out hb10); clear hb10) | (go_at_call 14; refine (alive_calls _).mono ?_; rintro e11 w11 ⟨rfl, hb11⟩; have HE := Aside0.mk (below_step H10.out hb11); clear hb11))
  go_ret
  exact ⟨rfl, HE.out⟩
theorem StepNobody_walk (a0 a1 a2 a3 a4 a5 a6 a7 a8 a9 a10 a11 : Int) (x y : Int) (w : World) {P0 P1 : Prop} (_h0 : P0) (_h1 : P1) :
    Calls Try.prog 7 #[.agg #[.int .i64 a0, .int .u8 a1, .int .u8 a2, .int .u8 a3, .int .u32 a4, .int .u64 a5, .int .i64 a6, .int .i64 a7, .int .i64 a8, .int .u64 a9, .int .u64 a10, .int .u64 a11], .agg #[.int .i64 x, .int .i64 y]] w fun e w' => e = .returned (.bool true) ∧ Below w.heap.size w w' :=
  StepNobody_core ⟨a0, a1, a2, a3, a4, a5, a6, a7, a8, a9, a10, a11⟩ x y w
end Go.Proofs.Ytooddkaepkjidaa.QSt
