/- Step: the reference's Do, walked by hand. Written by a program of this repo (tools/gen_rdo.py). -/
import Derived.Test.YtooddkaepkjidaaNSt
import Derived.Test.YtooddkaepkjidaaQStx6
namespace Go.Proofs.Ytooddkaepkjidaa.QSt
open Go.RowKit Go.Proofs.YtooddkaepkjidaaW.PrintWords Go.Proofs.YtooddkaepkjidaaW.PrintLast Go.Proofs.YtooddkaepkjidaaW.PrintMore
set_option linter.unusedVariables false
set_option linter.unusedSimpArgs false
attribute [local go_sem] cs_off

theorem rfound_ok (o : SOp) (t : STold) (nx : Int) : rampartref17_found.f o.n o.k o.a o.r o.h o.p o.nx o.ch o.ln o.sq o.ep o.pl t.rep.c t.rep.a t.rep.h t.rep.p t.op.n t.op.k t.op.a t.op.r t.op.h t.op.p t.op.nx t.op.ch t.op.ln t.op.sq t.op.ep t.op.pl t.code t.ready nx =
    some ((foundOp o t.op t.code nx).n, (foundOp o t.op t.code nx).k, (foundOp o t.op t.code nx).a, (foundOp o t.op t.code nx).r, (foundOp o t.op t.code nx).h, (foundOp o t.op t.code nx).p, (foundOp o t.op t.code nx).nx, (foundOp o t.op t.code nx).ch, (foundOp o t.op t.code nx).ln, (foundOp o t.op t.code nx).sq, (foundOp o t.op t.code nx).ep, (foundOp o t.op t.code nx).pl, (foundRep t.code).c, (foundRep t.code).a, (foundRep t.code).h, (foundRep t.code).p, decide (t.code ≠ 1)) := by
  unfold rampartref17_found.f foundOp foundRep
  by_cases h1 : t.code = 1
  · simp [h1, SRep.zero]
  · simp only [h1, if_false]
    by_cases h2 : t.code < 1
    · have n2 : t.code ≠ 2 := by omega
      have n3 : t.code ≠ 3 := by omega
      have n4 : t.code ≠ 4 := by omega
      simp [h1, h2, n2, n3, n4]
    · by_cases h4 : t.code > 4
      · have n2 : t.code ≠ 2 := by omega
        have n3 : t.code ≠ 3 := by omega
        have n4 : t.code ≠ 4 := by omega
        simp [h1, h2, h4, n2, n3, n4]
      · have n : t.code = 2 ∨ t.code = 3 ∨ t.code = 4 := by omega
        simp [h1, h2, h4, n]

abbrev cTold (t : STold) : Array Value := #[.int .u8 t.rep.c, .int .u8 t.rep.a, .int .u32 t.rep.h, .int .u64 t.rep.p, .int .i64 t.op.n, .int .u8 t.op.k, .int .u8 t.op.a, .int .u8 t.op.r, .int .u32 t.op.h, .int .u64 t.op.p, .int .i64 t.op.nx, .int .i64 t.op.ch, .int .i64 t.op.ln, .int .u64 t.op.sq, .int .u64 t.op.ep, .int .u64 t.op.pl, .int .u8 t.code, .bool t.ready]
abbrev cRep (r : SRep) : Array Value := #[.int .u8 r.c, .int .u8 r.a, .int .u32 r.h, .int .u64 r.p]
/-- The four boxes of the reference's Do. -/
def BE (w : World) (t : STold) (o O : SOp) (R : SRep) (w1 : World) : Prop :=
  w1.heap[w.heap.size]? = some (.cells (cTold t) 46 (0, 0)) ∧ w1.heap[w.heap.size + 1]? = some (.cells (cOp o) 31 (0, 0)) ∧ w1.heap[w.heap.size + 1 + 1]? = some (.cells (cOp O) 31 (0, 0)) ∧ w1.heap[w.heap.size + 1 + 1 + 1]? = some (.cells (cRep R) 44 (0, 0)) ∧ Below w.heap.size w w1
theorem BE.start (w : World) (t : STold) (o : SOp) : BE w t o SOp.zero SRep.zero ((((w.alloc (.cells (cTold t) 46)).alloc (.cells (cOp o) 31)).alloc (.cells (cOp SOp.zero) 31)).alloc (.cells (cRep SRep.zero) 44)) := by
  refine ⟨?_, ?_, ?_, ?_, below_alloc (below_alloc (below_alloc (below_alloc (Below.refl _ _) _) _) _) _⟩
  · rw [heap_alloc_old _ _ (by simp only [World.size_alloc]; omega), heap_alloc_old _ _ (by simp only [World.size_alloc]; omega), heap_alloc_old _ _ (by simp only [World.size_alloc]; omega)]; exact heap_alloc_new _ _
  · rw [heap_alloc_old _ _ (by simp only [World.size_alloc]; omega), heap_alloc_old _ _ (by simp only [World.size_alloc]; omega), show w.heap.size + 1 = (w.alloc (.cells (cTold t) 46)).heap.size by simp only [World.size_alloc]]; exact heap_alloc_new _ _
  · rw [heap_alloc_old _ _ (by simp only [World.size_alloc]; omega), show w.heap.size + 1 + 1 = ((w.alloc (.cells (cTold t) 46)).alloc (.cells (cOp o) 31)).heap.size by simp only [World.size_alloc]]; exact heap_alloc_new _ _
  · rw [show w.heap.size + 1 + 1 + 1 = (((w.alloc (.cells (cTold t) 46)).alloc (.cells (cOp o) 31)).alloc (.cells (cOp SOp.zero) 31)).heap.size by simp only [World.size_alloc]]; exact heap_alloc_new _ _
theorem BE.below {w w1 w2 : World} {t : STold} {o O : SOp} {R : SRep} (h : BE w t o O R w1) (hb : Below w1.heap.size w1 w2) : BE w t o O R w2 :=
  ⟨(hb.block _ (Array.getElem?_eq_some_iff.1 h.1).1).trans h.1, (hb.block _ (Array.getElem?_eq_some_iff.1 h.2.1).1).trans h.2.1, (hb.block _ (Array.getElem?_eq_some_iff.1 h.2.2.1).1).trans h.2.2.1, (hb.block _ (Array.getElem?_eq_some_iff.1 h.2.2.2.1).1).trans h.2.2.2.1, below_step h.2.2.2.2 hb⟩
theorem BE.st1 {w w1 : World} {t : STold} {o O : SOp} {R : SRep} (h : BE w t o O R w1) (O' : SOp) : BE w t o O' R (w1.setCells (w.heap.size + 1 + 1) 0 (cOp O').toList) :=
  ⟨(far_setCells (by omega) _ 0 w1).trans h.1, (far_setCells (by omega) _ 0 w1).trans h.2.1, by rw [blk_setCells _ 0 _ w1 h.2.2.1, setOp (cOp O) O' (by simp)], (far_setCells (by omega) _ 0 w1).trans h.2.2.2.1, below_setCells (by omega) _ _ _ h.2.2.2.2⟩
theorem BE.st2 {w w1 : World} {t : STold} {o O : SOp} {R : SRep} (h : BE w t o O R w1) (R' : SRep) : BE w t o O R' (w1.setCells (w.heap.size + 1 + 1 + 1) 0 (cRep R').toList) :=
  ⟨(far_setCells (by omega) _ 0 w1).trans h.1, (far_setCells (by omega) _ 0 w1).trans h.2.1, (far_setCells (by omega) _ 0 w1).trans h.2.2.1, by rw [blk_setCells _ 0 _ w1 h.2.2.2.1, setRep (cRep R) R' (by simp)], below_setCells (by omega) _ _ _ h.2.2.2.2⟩
theorem BE.nx {w w1 : World} {t : STold} {o O : SOp} {R : SRep} (h : BE w t o O R w1) (x : Int) : BE w t { o with nx := x } O R (w1.setCells (w.heap.size + 1) 6 [.int .i64 x]) := by
  refine ⟨(far_setCells (by omega) _ 6 w1).trans h.1, ?_, (far_setCells (by omega) _ 6 w1).trans h.2.2.1, (far_setCells (by omega) _ 6 w1).trans h.2.2.2.1, below_setCells (by omega) _ _ _ h.2.2.2.2⟩
  rw [blk_setCells _ 6 _ w1 h.2.1]
  simp only [cOp, setAll, List.setIfInBounds_toArray, List.set_cons_succ, List.set_cons_zero]
theorem BE.op {w w1 : World} {t : STold} {o O : SOp} {R : SRep} (h : BE w t o O R w1) (o' : SOp) : BE w t o' O R (w1.setCells (w.heap.size + 1) 0 (cOp o').toList) :=
  ⟨(far_setCells (by omega) _ 0 w1).trans h.1, by rw [blk_setCells _ 0 _ w1 h.2.1, setOp (cOp o) o' (by simp)], (far_setCells (by omega) _ 0 w1).trans h.2.2.1, (far_setCells (by omega) _ 0 w1).trans h.2.2.2.1, below_setCells (by omega) _ _ _ h.2.2.2.2⟩
/-- A block far from these. -/
theorem far1 {w w1 : World} {g : Nat} {C : Obj} (hg : w.heap.size + 1 + 1 + 1 < g) (h : w1.heap[g]? = some C) (o : Nat) (vs : List Value) : (w1.setCells (w.heap.size + 1 + 1) o vs).heap[g]? = some C := (far_setCells (by omega) vs o w1).trans h
theorem far2 {w w1 : World} {g : Nat} {C : Obj} (hg : w.heap.size + 1 + 1 + 1 < g) (h : w1.heap[g]? = some C) (o : Nat) (vs : List Value) : (w1.setCells (w.heap.size + 1 + 1 + 1) o vs).heap[g]? = some C := (far_setCells (by omega) vs o w1).trans h
theorem told_rep {w : World} {b : Nat} {t : STold} (h : w.heap[b]? = some (.cells (cTold t) 46 (0, 0))) : w.rangeAt b 0 (cRep t.rep).toList := fun j v hv => by
  match j, hv with
  | 0, hv => simp at hv; subst hv; simp [World.cell?, h]
  | 1, hv => simp at hv; subst hv; simp [World.cell?, h]
  | 2, hv => simp at hv; subst hv; simp [World.cell?, h]
  | 3, hv => simp at hv; subst hv; simp [World.cell?, h]
  | j + 4, hv => simp at hv

set_option maxRecDepth 100000 in
set_option maxHeartbeats 2000000 in
theorem RDo_over (t : STold) (o : SOp) (w : World) (hp : placeOf o < 0) :
    Calls Try.prog 18 #[vTold t, vOp o] w fun e w' => e = .returned (.tuple #[vOp SOp.zero, vRep SRep.zero, .bool false, .int .i64 170]) ∧ Below w.heap.size w w' := by
  have HS : Aside0 _ := ⟨BE.start w t o⟩
  have hd : decide (placeOf o < 0) = true := decide_eq_true hp
  clear hp
  go_enter Try.func18, Try.ntmps18
  go_wp2_with (first | ((with_reducible refine gate_ (.load 31 (.tmp 3)) rfl ?_); refine load_blk rfl 31 (.tmp 3) rfl (w.heap.size + 1) _ 31 rfl _ HS.out.2.1 Try.underlying31 rfl (by kernel_rfl) ?_) | (go_at_call 25; refine (rampartref17_place.calls 10 o.n o.k o.a o.r o.h o.p o.nx o.ch o.ln o.sq o.ep o.pl (placeOf o) _ (rplace_ok o)).mono ?_; rintro e w1 ⟨rfl, hb1⟩; have HX := Aside0.mk (HS.out.below hb1); clear hb1) | ((with_reducible refine gate_store (p := 4) (t := 31) rfl ?_); refine store_blk rfl 31 (.tmp 4) (.tmp 18) rfl (w.heap.size + 1 + 1) 0 (cOp SOp.zero) _ 31 rfl rfl HX.out.2.2.1 (by simp) (by kernel_rfl) (by simp [Value.oneCell']) ?_; intro w5 e5 hw5; have HQ := Aside0.mk (HX.out.st1 SOp.zero); rw [← show w5 = _ from e5] at HQ; clear e5 hw5) | ((with_reducible refine gate_store (p := 5) (t := 44) rfl ?_); refine store_blk rfl 44 (.tmp 5) (.tmp 19) rfl (w.heap.size + 1 + 1 + 1) 0 (cRep SRep.zero) _ 44 rfl rfl HQ.out.2.2.2.1 (by simp) (by kernel_rfl) (by simp [Value.oneCell']) ?_; intro w6 e6 hw6; have HR := Aside0.mk (HQ.out.st2 SRep.zero); rw [← show w6 = _ from e6] at HR; clear e6 hw6))
  obtain ⟨c4, c3, c1, c2, hb⟩ := HR.out
  obtain ⟨z0, z1, z2, z3, z4, z5, z6, z7, z8, z9, z10, z11⟩ := op_cells c1
  obtain ⟨y0, y1, y2, y3⟩ := rep_cells (r := SRep.zero) c2
  (try simp only [Exit.inBlock, Exit.then])
  refine bodyPost_ret (by simp [results, Try.results18, go_sem, z0, z1, z2, z3, z4, z5, z6, z7, z8, z9, z10, z11, y0, y1, y2, y3]; try rfl) rfl ?_
  exact ⟨by first | rfl | simp, hb⟩

set_option maxRecDepth 100000 in
set_option maxHeartbeats 2000000 in
theorem RDo_blocked (t : STold) (o : SOp) (w : World) (hp : ¬ placeOf o < 0) (he : enb t.ready o = false) :
    Calls Try.prog 18 #[vTold t, vOp o] w fun e w' => e = .returned (.tuple #[vOp SOp.zero, vRep SRep.zero, .bool false, .int .i64 171]) ∧ Below w.heap.size w w' := by
  have HS : Aside0 _ := ⟨BE.start w t o⟩
  have hd : decide (placeOf o < 0) = false := decide_eq_false hp
  have HE := Aside0.mk he
  clear hp he
  go_enter Try.func18, Try.ntmps18
  go_wp2_with (first | ((with_reducible refine gate_ (.load 31 (.tmp 3)) rfl ?_); refine load_blk rfl 31 (.tmp 3) rfl (w.heap.size + 1) _ 31 rfl _ HX.out.2.1 Try.underlying31 rfl (by kernel_rfl) ?_) | ((with_reducible refine gate_ (.load 31 (.tmp 3)) rfl ?_); refine load_blk rfl 31 (.tmp 3) rfl (w.heap.size + 1) _ 31 rfl _ HS.out.2.1 Try.underlying31 rfl (by kernel_rfl) ?_) | ((with_reducible refine gate_ (.load 46 (.tmp 2)) rfl ?_); refine load_blk rfl 46 (.tmp 2) rfl w.heap.size _ 46 rfl _ HX.out.1 Try.underlying46 rfl (by kernel_rfl) ?_) | (go_at_call 25; refine (rampartref17_place.calls 10 o.n o.k o.a o.r o.h o.p o.nx o.ch o.ln o.sq o.ep o.pl (placeOf o) _ (rplace_ok o)).mono ?_; rintro e w1 ⟨rfl, hb1⟩; have HX := Aside0.mk (HS.out.below hb1); clear hb1) | (go_at_call 16; refine (rampartref17_Enabled.calls 10 t.rep.c t.rep.a t.rep.h t.rep.p t.op.n t.op.k t.op.a t.op.r t.op.h t.op.p t.op.nx t.op.ch t.op.ln t.op.sq t.op.ep t.op.pl t.code t.ready o.n o.k o.a o.r o.h o.p o.nx o.ch o.ln o.sq o.ep o.pl false _ (by rw [renb_ok, HE.out])).mono ?_; rintro e w2 ⟨rfl, hb2⟩; have HY := Aside0.mk (HX.out.below hb2); clear hb2) | ((with_reducible refine gate_store (p := 4) (t := 31) rfl ?_); refine store_blk rfl 31 (.tmp 4) (.tmp 24) rfl (w.heap.size + 1 + 1) 0 (cOp SOp.zero) _ 31 rfl rfl HY.out.2.2.1 (by simp) (by kernel_rfl) (by simp [Value.oneCell']) ?_; intro w5 e5 hw5; have HQ := Aside0.mk (HY.out.st1 SOp.zero); rw [← show w5 = _ from e5] at HQ; clear e5 hw5) | ((with_reducible refine gate_store (p := 5) (t := 44) rfl ?_); refine store_blk rfl 44 (.tmp 5) (.tmp 25) rfl (w.heap.size + 1 + 1 + 1) 0 (cRep SRep.zero) _ 44 rfl rfl HQ.out.2.2.2.1 (by simp) (by kernel_rfl) (by simp [Value.oneCell']) ?_; intro w6 e6 hw6; have HR := Aside0.mk (HQ.out.st2 SRep.zero); rw [← show w6 = _ from e6] at HR; clear e6 hw6))
  obtain ⟨c4, c3, c1, c2, hb⟩ := HR.out
  obtain ⟨z0, z1, z2, z3, z4, z5, z6, z7, z8, z9, z10, z11⟩ := op_cells c1
  obtain ⟨y0, y1, y2, y3⟩ := rep_cells (r := SRep.zero) c2
  (try simp only [Exit.inBlock, Exit.then])
  refine bodyPost_ret (by simp [results, Try.results18, go_sem, z0, z1, z2, z3, z4, z5, z6, z7, z8, z9, z10, z11, y0, y1, y2, y3]; try rfl) rfl ?_
  exact ⟨by first | rfl | simp, hb⟩

def S1 (b g : Nat) (t : STold) (O : SOp) (w : World) : Prop := w.heap[b]? = some (.cells (cTold t) 46 (0, 0)) ∧ w.heap[g]? = some (.cells (cOp O) 31 (0, 0))
def S2 (g : Nat) (O : SOp) (R : SRep) (w : World) : Prop := w.heap[g]? = some (.cells (cOp O) 31 (0, 0)) ∧ w.heap[g + 1]? = some (.cells (cRep R) 44 (0, 0))
def S3 (b g : Nat) (o O : SOp) (w : World) : Prop := w.heap[b]? = some (.cells (cOp o) 31 (0, 0)) ∧ w.heap[g]? = some (.cells (cOp O) 31 (0, 0))
set_option maxRecDepth 100000 in
set_option maxHeartbeats 2000000 in
theorem RDo_1 (t : STold) (o : SOp) (w : World) (hp : ¬ placeOf o < 0) (he : enb t.ready o = true) (hnx : o.nx = 1) :
    Calls Try.prog 18 #[vTold t, vOp o] w fun e w' => e = .returned (.tuple #[vOp ({ o with nx := 7 } : SOp), vRep t.rep, .bool true, .int .i64 0]) ∧ Below w.heap.size w w' := by
  have HS : Aside0 _ := ⟨BE.start w t o⟩
  have h6 : Aside0 (o.nx = 1) := ⟨hnx⟩
  clear hnx
  have hd : decide (placeOf o < 0) = false := decide_eq_false hp
  have HE := Aside0.mk he
  clear hp he
  go_enter Try.func18, Try.ntmps18
  go_upto_region 7 with (first | ((with_reducible refine gate_ (.load 31 (.tmp 3)) rfl ?_); refine load_blk rfl 31 (.tmp 3) rfl (w.heap.size + 1) _ 31 rfl _ HY.out.2.1 Try.underlying31 rfl (by kernel_rfl) ?_) | ((with_reducible refine gate_ (.load 31 (.tmp 3)) rfl ?_); refine load_blk rfl 31 (.tmp 3) rfl (w.heap.size + 1) _ 31 rfl _ HX.out.2.1 Try.underlying31 rfl (by kernel_rfl) ?_) | ((with_reducible refine gate_ (.load 31 (.tmp 3)) rfl ?_); refine load_blk rfl 31 (.tmp 3) rfl (w.heap.size + 1) _ 31 rfl _ HS.out.2.1 Try.underlying31 rfl (by kernel_rfl) ?_) | ((with_reducible refine gate_ (.load 46 (.tmp 2)) rfl ?_); refine load_blk rfl 46 (.tmp 2) rfl w.heap.size _ 46 rfl _ HX.out.1 Try.underlying46 rfl (by kernel_rfl) ?_) | (go_at_call 25; refine (rampartref17_place.calls 10 o.n o.k o.a o.r o.h o.p o.nx o.ch o.ln o.sq o.ep o.pl (placeOf o) _ (rplace_ok o)).mono ?_; rintro e w1 ⟨rfl, hb1⟩; have HX := Aside0.mk (HS.out.below hb1); clear hb1) | (go_at_call 16; refine (rampartref17_Enabled.calls 10 t.rep.c t.rep.a t.rep.h t.rep.p t.op.n t.op.k t.op.a t.op.r t.op.h t.op.p t.op.nx t.op.ch t.op.ln t.op.sq t.op.ep t.op.pl t.code t.ready o.n o.k o.a o.r o.h o.p o.nx o.ch o.ln o.sq o.ep o.pl true _ (by rw [renb_ok, HE.out])).mono ?_; rintro e w2 ⟨rfl, hb2⟩; have HY := Aside0.mk (HX.out.below hb2); clear hb2))
  have HN : Aside0 (w.heap.size + 1 + 1 + 1 < w2.heap.size) := ⟨(Array.getElem?_eq_some_iff.1 HY.out.2.2.2.1).1⟩
  change Code.wp Try.prog _ _ _ (w2.alloc (.cells (cOp { o with nx := 7 }) 31))
  have HU := Aside0.mk (And.intro (HY.out.below (below_alloc (Below.refl _ _) (.cells (cOp { o with nx := 7 }) 31))) (heap_alloc_new w2 (.cells (cOp { o with nx := 7 }) 31)))
  generalize w2.alloc (.cells (cOp { o with nx := 7 }) 31) = w4 at HU ⊢
  generalize w2.heap.size = g at HU HN ⊢
  obtain ⟨z0, z1, z2, z3, z4, z5, z6, z7, z8, z9, z10, z11⟩ := op_cells HU.out.1.2.1
  have zf := op_frozen HU.out.1.2.1
  rw [h6.out] at z6
  go_wp2
  clear z0 z1 z2 z3 z4 z5 z6 z7 z8 z9 z10 z11 zf
  refine wp_region_held_drew (S := S1 w.heap.size g t ({ o with nx := 7 } : SOp)) (by kernel_rfl) ⟨HU.out.1.1, HU.out.2⟩ (fun hHeld => ?_)
  refine take_at (i := 0) (v := vOp ({ o with nx := 7 } : SOp)) 32 rfl rfl (by kernel_rfl) (by kernel_rfl) (by kernel_rfl) (fun _ _ _ h => h) (yields_blk (by rfl) 31 (.tmp 8) rfl g _ 31 rfl _ (fun w h => h.2) Try.underlying31 rfl (by kernel_rfl)) hHeld ?_
  try simp only [Act.put, List.setIfInBounds_toArray, List.set_cons_zero, List.set_cons_succ]
  refine take_at (i := 1) (v := .pointer (some ⟨w.heap.size, 0, none⟩)) 33 rfl rfl (by kernel_rfl) (by kernel_rfl) (by kernel_rfl) (fun _ _ _ h => h) (Or.inl ⟨by rfl, fun w _ => by first | rfl | (go_simp; done) | (go_simp; rfl)⟩) hHeld ?_
  try simp only [Act.put, List.setIfInBounds_toArray, List.set_cons_zero, List.set_cons_succ]
  refine take_at (i := 2) (v := vRep t.rep) 34 rfl rfl (by kernel_rfl) (by kernel_rfl) (by kernel_rfl) (fun _ _ _ h => h) (yieldsIf_load_mid (by rfl) 44 (.tmp 33) rfl w.heap.size 0 rfl (cRep t.rep).toList _ (fun w h => told_rep h.1) Try.underlying44 rfl (by kernel_rfl)) hHeld ?_
  try simp only [Act.put, List.setIfInBounds_toArray, List.set_cons_zero, List.set_cons_succ]
  have HU1 : Aside0 (BE w t o SOp.zero SRep.zero w4.drew) := ⟨HU.out.1.below (pw_below_drewN (Below.refl _ _) 1)⟩
  generalize w4.drew = w5 at HU1 hHeld ⊢
  refine wpAnyH_ready (rs := [3]) (by kernel_rfl) (by simp) ?_
  refine AllReadyH.cons rfl (fun K hK => ?_) AllReadyH.nil
  rw [if_pos (by rfl)]
  refine store_at rfl 31 (.tmp 4) (.tmp 32) rfl (w.heap.size + 1 + 1) 0 (cOp ({ o with nx := 7 } : SOp)) rfl rfl (there_of_block HU1.out.2.2.1 0 12 (by simp)) (by kernel_rfl) (by simp [Value.oneCell']) ?_
  have HQ := Aside0.mk (HU1.out.st1 ({ o with nx := 7 } : SOp))
  have hS : S1 w.heap.size g t ({ o with nx := 7 } : SOp) (w5.setCells (w.heap.size + 1 + 1) 0 (cOp ({ o with nx := 7 } : SOp)).toList) := ⟨(far_setCells (by have := HN.out; omega) _ 0 w5).trans hHeld.1, (far_setCells (by have := HN.out; omega) _ 0 w5).trans hHeld.2⟩
  clear hHeld HU1
  generalize w5.setCells (w.heap.size + 1 + 1) 0 (cOp ({ o with nx := 7 } : SOp)).toList = w6 at HQ hS ⊢
  refine hK.out _ _ hS (fun hHeld => ?_)
  clear hK K hS
  try simp only [Act.put, List.setIfInBounds_toArray, List.set_cons_zero, List.set_cons_succ]
  refine wpAnyH_ready (rs := [4]) (by kernel_rfl) (by simp) ?_
  refine AllReadyH.cons rfl (fun K hK => ?_) AllReadyH.nil
  rw [if_pos (by rfl)]
  refine store_at rfl 44 (.tmp 5) (.tmp 34) rfl (w.heap.size + 1 + 1 + 1) 0 (cRep t.rep) rfl rfl (there_of_block HQ.out.2.2.2.1 0 4 (by simp)) (by kernel_rfl) (by simp [Value.oneCell']) ?_
  have HR := Aside0.mk (HQ.out.st2 t.rep)
  have hS : S1 w.heap.size g t ({ o with nx := 7 } : SOp) (w6.setCells (w.heap.size + 1 + 1 + 1) 0 (cRep t.rep).toList) := ⟨(far_setCells (by have := HN.out; omega) _ 0 w6).trans hHeld.1, (far_setCells (by have := HN.out; omega) _ 0 w6).trans hHeld.2⟩
  clear hHeld HQ
  generalize w6.setCells (w.heap.size + 1 + 1 + 1) 0 (cRep t.rep).toList = w7 at HR hS ⊢
  refine hK.out _ _ hS (fun hHeld => ?_)
  clear hK K hS
  try simp only [Act.put, List.setIfInBounds_toArray, List.set_cons_zero, List.set_cons_succ]
  refine take_at (i := 5) (v := .bool true) 6 rfl rfl (by kernel_rfl) (by kernel_rfl) (by kernel_rfl) (fun _ _ _ h => h) (Or.inl ⟨by rfl, fun w _ => by first | rfl | (go_simp; done) | (go_simp; rfl)⟩) hHeld ?_
  try simp only [Act.put, List.setIfInBounds_toArray, List.set_cons_zero, List.set_cons_succ]
  refine take_at (i := 6) (v := .int .i64 0) 7 rfl rfl (by kernel_rfl) (by kernel_rfl) (by kernel_rfl) (fun _ _ _ h => h) (Or.inl ⟨by rfl, fun w _ => by first | rfl | (go_simp; done) | (go_simp; rfl)⟩) hHeld ?_
  try simp only [Act.put, List.setIfInBounds_toArray, List.set_cons_zero, List.set_cons_succ]
  refine wpAnyH_done (by kernel_rfl) ?_ _
  clear hHeld
  go_wp2
  obtain ⟨c4, c3, c1, c2, hb⟩ := HR.out
  obtain ⟨z0, z1, z2, z3, z4, z5, z6, z7, z8, z9, z10, z11⟩ := op_cells c1
  obtain ⟨y0, y1, y2, y3⟩ := rep_cells (r := t.rep) c2
  (try simp only [Exit.inBlock, Exit.then])
  refine bodyPost_ret (by simp [results, Try.results18, go_sem, z0, z1, z2, z3, z4, z5, z6, z7, z8, z9, z10, z11, y0, y1, y2, y3]; try rfl) rfl ?_
  exact ⟨by first | rfl | simp, hb⟩

set_option maxRecDepth 100000 in
set_option maxHeartbeats 2000000 in
theorem RDo_2 (t : STold) (o : SOp) (w : World) (hp : ¬ placeOf o < 0) (he : enb t.ready o = true) (hnx : o.nx = 2) :
    Calls Try.prog 18 #[vTold t, vOp o] w fun e w' => e = .returned (.tuple #[vOp (foundOp o t.op t.code 3), vRep (foundRep t.code), .bool (decide (t.code ≠ 1)), .int .i64 0]) ∧ Below w.heap.size w w' := by
  have HS : Aside0 _ := ⟨BE.start w t o⟩
  have h6 : Aside0 (o.nx = 2) := ⟨hnx⟩
  clear hnx
  have hd : decide (placeOf o < 0) = false := decide_eq_false hp
  have HE := Aside0.mk he
  clear hp he
  go_enter Try.func18, Try.ntmps18
  go_upto_region 7 with (first | ((with_reducible refine gate_ (.load 31 (.tmp 3)) rfl ?_); refine load_blk rfl 31 (.tmp 3) rfl (w.heap.size + 1) _ 31 rfl _ HY.out.2.1 Try.underlying31 rfl (by kernel_rfl) ?_) | ((with_reducible refine gate_ (.load 31 (.tmp 3)) rfl ?_); refine load_blk rfl 31 (.tmp 3) rfl (w.heap.size + 1) _ 31 rfl _ HX.out.2.1 Try.underlying31 rfl (by kernel_rfl) ?_) | ((with_reducible refine gate_ (.load 31 (.tmp 3)) rfl ?_); refine load_blk rfl 31 (.tmp 3) rfl (w.heap.size + 1) _ 31 rfl _ HS.out.2.1 Try.underlying31 rfl (by kernel_rfl) ?_) | ((with_reducible refine gate_ (.load 46 (.tmp 2)) rfl ?_); refine load_blk rfl 46 (.tmp 2) rfl w.heap.size _ 46 rfl _ HX.out.1 Try.underlying46 rfl (by kernel_rfl) ?_) | (go_at_call 25; refine (rampartref17_place.calls 10 o.n o.k o.a o.r o.h o.p o.nx o.ch o.ln o.sq o.ep o.pl (placeOf o) _ (rplace_ok o)).mono ?_; rintro e w1 ⟨rfl, hb1⟩; have HX := Aside0.mk (HS.out.below hb1); clear hb1) | (go_at_call 16; refine (rampartref17_Enabled.calls 10 t.rep.c t.rep.a t.rep.h t.rep.p t.op.n t.op.k t.op.a t.op.r t.op.h t.op.p t.op.nx t.op.ch t.op.ln t.op.sq t.op.ep t.op.pl t.code t.ready o.n o.k o.a o.r o.h o.p o.nx o.ch o.ln o.sq o.ep o.pl true _ (by rw [renb_ok, HE.out])).mono ?_; rintro e w2 ⟨rfl, hb2⟩; have HY := Aside0.mk (HX.out.below hb2); clear hb2))
  have HN : Aside0 (w.heap.size + 1 + 1 + 1 < w2.heap.size) := ⟨(Array.getElem?_eq_some_iff.1 HY.out.2.2.2.1).1⟩
  change Code.wp Try.prog _ _ _ (w2.alloc (.cells (cOp { o with nx := 7 }) 31))
  have HU := Aside0.mk (And.intro (HY.out.below (below_alloc (Below.refl _ _) (.cells (cOp { o with nx := 7 }) 31))) (heap_alloc_new w2 (.cells (cOp { o with nx := 7 }) 31)))
  generalize w2.alloc (.cells (cOp { o with nx := 7 }) 31) = w4 at HU ⊢
  generalize w2.heap.size = g at HU HN ⊢
  obtain ⟨z0, z1, z2, z3, z4, z5, z6, z7, z8, z9, z10, z11⟩ := op_cells HU.out.1.2.1
  have zf := op_frozen HU.out.1.2.1
  rw [h6.out] at z6
  have hf := rfound_ok o t 3
  generalize hO : foundOp o t.op t.code 3 = O at hf ⊢
  generalize hR : foundRep t.code = R at hf ⊢
  generalize hb : decide (t.code ≠ 1) = b at hf ⊢
  have HF := Aside0.mk hf
  have HO := Aside0.mk hO
  have HRR := Aside0.mk hR
  have HBB := Aside0.mk hb
  clear hf hO hR hb
  go_wp2_with (first | ((with_reducible refine gate_ (.load 31 (.tmp 3)) rfl ?_); refine load_blk rfl 31 (.tmp 3) rfl (w.heap.size + 1) _ 31 rfl _ HU.out.1.2.1 Try.underlying31 rfl (by kernel_rfl) ?_) | ((with_reducible refine gate_ (.load 46 (.tmp 2)) rfl ?_); refine load_blk rfl 46 (.tmp 2) rfl w.heap.size _ 46 rfl _ HU.out.1.1 Try.underlying46 rfl (by kernel_rfl) ?_) | (go_at_call 27; refine (rampartref17_found.calls _ _ _ _ _ _ _ _ _ _ _ _ _ _ _ _ _ _ _ _ _ _ _ _ _ _ _ _ _ _ _ _ _ _ _ _ _ _ _ _ _ _ _ _ _ _ _ _ _ HF.out).mono ?_; rintro e w3 ⟨rfl, hb3⟩; have HZ := Aside0.mk (HU.out.1.below hb3); clear hb3 z0 z1 z2 z3 z4 z5 z6 z7 z8 z9 z10 z11 zf))
  change Code.wp Try.prog _ _ _ ((w3.alloc (.cells (cOp O) 31)).alloc (.cells (cRep R) 44))
  clear HU HN
  have HN : Aside0 (w.heap.size + 1 + 1 + 1 < w3.heap.size) := ⟨(Array.getElem?_eq_some_iff.1 HZ.out.2.2.2.1).1⟩
  have HU := Aside0.mk (And.intro (HZ.out.below (below_alloc (below_alloc (Below.refl _ _) (.cells (cOp O) 31)) (.cells (cRep R) 44))) (show S2 w3.heap.size O R ((w3.alloc (.cells (cOp O) 31)).alloc (.cells (cRep R) 44)) from ⟨by rw [heap_alloc_old _ _ (by rw [World.size_alloc]; omega)]; exact heap_alloc_new _ _, by rw [show w3.heap.size + 1 = (w3.alloc (.cells (cOp O) 31)).heap.size by rw [World.size_alloc]]; exact heap_alloc_new _ _⟩))
  generalize ((w3.alloc (.cells (cOp O) 31)).alloc (.cells (cRep R) 44)) = w4 at HU ⊢
  generalize w3.heap.size = g2 at HU HN ⊢
  refine wp_region_held_drew (S := S2 g2 O R) (by kernel_rfl) HU.out.2 (fun hHeld => ?_)
  refine take_at (i := 0) (v := vOp O) 44 rfl rfl (by kernel_rfl) (by kernel_rfl) (by kernel_rfl) (fun _ _ _ h => h) (yields_blk (by rfl) 31 (.tmp 9) rfl g2 _ 31 rfl _ (fun w h => h.1) Try.underlying31 rfl (by kernel_rfl)) hHeld ?_
  try simp only [Act.put, List.setIfInBounds_toArray, List.set_cons_zero, List.set_cons_succ]
  refine take_at (i := 1) (v := vRep R) 45 rfl rfl (by kernel_rfl) (by kernel_rfl) (by kernel_rfl) (fun _ _ _ h => h) (yields_blk (by rfl) 44 (.tmp 10) rfl (g2 + 1) _ 44 rfl _ (fun w h => h.2) Try.underlying44 rfl (by kernel_rfl)) hHeld ?_
  try simp only [Act.put, List.setIfInBounds_toArray, List.set_cons_zero, List.set_cons_succ]
  refine take_at (i := 2) (v := .bool b) 46 rfl rfl (by kernel_rfl) (by kernel_rfl) (by kernel_rfl) (fun _ _ _ h => h) (Or.inl ⟨by rfl, fun w _ => by first | rfl | (go_simp; done) | (go_simp; rfl)⟩) hHeld ?_
  try simp only [Act.put, List.setIfInBounds_toArray, List.set_cons_zero, List.set_cons_succ]
  have HU1 : Aside0 (BE w t o SOp.zero SRep.zero w4.drew) := ⟨HU.out.1.below (pw_below_drewN (Below.refl _ _) 1)⟩
  generalize w4.drew = w5 at HU1 hHeld ⊢
  refine wpAnyH_ready (rs := [3]) (by kernel_rfl) (by simp) ?_
  refine AllReadyH.cons rfl (fun K hK => ?_) AllReadyH.nil
  rw [if_pos (by rfl)]
  refine store_at rfl 31 (.tmp 4) (.tmp 44) rfl (w.heap.size + 1 + 1) 0 (cOp O) rfl rfl (there_of_block HU1.out.2.2.1 0 12 (by simp)) (by kernel_rfl) (by simp [Value.oneCell']) ?_
  have HQ := Aside0.mk (HU1.out.st1 O)
  have hS : S2 g2 O R (w5.setCells (w.heap.size + 1 + 1) 0 (cOp O).toList) := ⟨(far_setCells (by have := HN.out; omega) _ 0 w5).trans hHeld.1, (far_setCells (by have := HN.out; omega) _ 0 w5).trans hHeld.2⟩
  clear hHeld HU1
  generalize w5.setCells (w.heap.size + 1 + 1) 0 (cOp O).toList = w6 at HQ hS ⊢
  refine hK.out _ _ hS (fun hHeld => ?_)
  clear hK K hS
  try simp only [Act.put, List.setIfInBounds_toArray, List.set_cons_zero, List.set_cons_succ]
  refine wpAnyH_ready (rs := [4]) (by kernel_rfl) (by simp) ?_
  refine AllReadyH.cons rfl (fun K hK => ?_) AllReadyH.nil
  rw [if_pos (by rfl)]
  refine store_at rfl 44 (.tmp 5) (.tmp 45) rfl (w.heap.size + 1 + 1 + 1) 0 (cRep R) rfl rfl (there_of_block HQ.out.2.2.2.1 0 4 (by simp)) (by kernel_rfl) (by simp [Value.oneCell']) ?_
  have HR := Aside0.mk (HQ.out.st2 R)
  have hS : S2 g2 O R (w6.setCells (w.heap.size + 1 + 1 + 1) 0 (cRep R).toList) := ⟨(far_setCells (by have := HN.out; omega) _ 0 w6).trans hHeld.1, (far_setCells (by have := HN.out; omega) _ 0 w6).trans hHeld.2⟩
  clear hHeld HQ
  generalize w6.setCells (w.heap.size + 1 + 1 + 1) 0 (cRep R).toList = w7 at HR hS ⊢
  refine hK.out _ _ hS (fun hHeld => ?_)
  clear hK K hS
  try simp only [Act.put, List.setIfInBounds_toArray, List.set_cons_zero, List.set_cons_succ]
  refine take_at (i := 5) (v := .bool b) 6 rfl rfl (by kernel_rfl) (by kernel_rfl) (by kernel_rfl) (fun _ _ _ h => h) (Or.inl ⟨by rfl, fun w _ => by first | rfl | (go_simp; done) | (go_simp; rfl)⟩) hHeld ?_
  try simp only [Act.put, List.setIfInBounds_toArray, List.set_cons_zero, List.set_cons_succ]
  refine take_at (i := 6) (v := .int .i64 0) 7 rfl rfl (by kernel_rfl) (by kernel_rfl) (by kernel_rfl) (fun _ _ _ h => h) (Or.inl ⟨by rfl, fun w _ => by first | rfl | (go_simp; done) | (go_simp; rfl)⟩) hHeld ?_
  try simp only [Act.put, List.setIfInBounds_toArray, List.set_cons_zero, List.set_cons_succ]
  refine wpAnyH_done (by kernel_rfl) ?_ _
  clear hHeld
  go_wp2
  obtain ⟨c4, c3, c1, c2, hb⟩ := HR.out
  obtain ⟨z0, z1, z2, z3, z4, z5, z6, z7, z8, z9, z10, z11⟩ := op_cells c1
  obtain ⟨y0, y1, y2, y3⟩ := rep_cells (r := R) c2
  (try simp only [Exit.inBlock, Exit.then])
  refine bodyPost_ret (by simp [results, Try.results18, go_sem, z0, z1, z2, z3, z4, z5, z6, z7, z8, z9, z10, z11, y0, y1, y2, y3]; try rfl) rfl ?_
  exact ⟨by rw [HO.out, HRR.out, HBB.out], hb⟩

set_option maxRecDepth 100000 in
set_option maxHeartbeats 2000000 in
theorem RDo_5 (t : STold) (o : SOp) (w : World) (hp : ¬ placeOf o < 0) (he : enb t.ready o = true) (hnx : o.nx = 5) :
    Calls Try.prog 18 #[vTold t, vOp o] w fun e w' => e = .returned (.tuple #[vOp (foundOp o t.op t.code 6), vRep (foundRep t.code), .bool (decide (t.code ≠ 1)), .int .i64 0]) ∧ Below w.heap.size w w' := by
  have HS : Aside0 _ := ⟨BE.start w t o⟩
  have h6 : Aside0 (o.nx = 5) := ⟨hnx⟩
  clear hnx
  have hd : decide (placeOf o < 0) = false := decide_eq_false hp
  have HE := Aside0.mk he
  clear hp he
  go_enter Try.func18, Try.ntmps18
  go_upto_region 7 with (first | ((with_reducible refine gate_ (.load 31 (.tmp 3)) rfl ?_); refine load_blk rfl 31 (.tmp 3) rfl (w.heap.size + 1) _ 31 rfl _ HY.out.2.1 Try.underlying31 rfl (by kernel_rfl) ?_) | ((with_reducible refine gate_ (.load 31 (.tmp 3)) rfl ?_); refine load_blk rfl 31 (.tmp 3) rfl (w.heap.size + 1) _ 31 rfl _ HX.out.2.1 Try.underlying31 rfl (by kernel_rfl) ?_) | ((with_reducible refine gate_ (.load 31 (.tmp 3)) rfl ?_); refine load_blk rfl 31 (.tmp 3) rfl (w.heap.size + 1) _ 31 rfl _ HS.out.2.1 Try.underlying31 rfl (by kernel_rfl) ?_) | ((with_reducible refine gate_ (.load 46 (.tmp 2)) rfl ?_); refine load_blk rfl 46 (.tmp 2) rfl w.heap.size _ 46 rfl _ HX.out.1 Try.underlying46 rfl (by kernel_rfl) ?_) | (go_at_call 25; refine (rampartref17_place.calls 10 o.n o.k o.a o.r o.h o.p o.nx o.ch o.ln o.sq o.ep o.pl (placeOf o) _ (rplace_ok o)).mono ?_; rintro e w1 ⟨rfl, hb1⟩; have HX := Aside0.mk (HS.out.below hb1); clear hb1) | (go_at_call 16; refine (rampartref17_Enabled.calls 10 t.rep.c t.rep.a t.rep.h t.rep.p t.op.n t.op.k t.op.a t.op.r t.op.h t.op.p t.op.nx t.op.ch t.op.ln t.op.sq t.op.ep t.op.pl t.code t.ready o.n o.k o.a o.r o.h o.p o.nx o.ch o.ln o.sq o.ep o.pl true _ (by rw [renb_ok, HE.out])).mono ?_; rintro e w2 ⟨rfl, hb2⟩; have HY := Aside0.mk (HX.out.below hb2); clear hb2))
  have HN : Aside0 (w.heap.size + 1 + 1 + 1 < w2.heap.size) := ⟨(Array.getElem?_eq_some_iff.1 HY.out.2.2.2.1).1⟩
  change Code.wp Try.prog _ _ _ (w2.alloc (.cells (cOp { o with nx := 7 }) 31))
  have HU := Aside0.mk (And.intro (HY.out.below (below_alloc (Below.refl _ _) (.cells (cOp { o with nx := 7 }) 31))) (heap_alloc_new w2 (.cells (cOp { o with nx := 7 }) 31)))
  generalize w2.alloc (.cells (cOp { o with nx := 7 }) 31) = w4 at HU ⊢
  generalize w2.heap.size = g at HU HN ⊢
  obtain ⟨z0, z1, z2, z3, z4, z5, z6, z7, z8, z9, z10, z11⟩ := op_cells HU.out.1.2.1
  have zf := op_frozen HU.out.1.2.1
  rw [h6.out] at z6
  have hf := rfound_ok o t 6
  generalize hO : foundOp o t.op t.code 6 = O at hf ⊢
  generalize hR : foundRep t.code = R at hf ⊢
  generalize hb : decide (t.code ≠ 1) = b at hf ⊢
  have HF := Aside0.mk hf
  have HO := Aside0.mk hO
  have HRR := Aside0.mk hR
  have HBB := Aside0.mk hb
  clear hf hO hR hb
  go_wp2_with (first | ((with_reducible refine gate_ (.load 31 (.tmp 3)) rfl ?_); refine load_blk rfl 31 (.tmp 3) rfl (w.heap.size + 1) _ 31 rfl _ HU.out.1.2.1 Try.underlying31 rfl (by kernel_rfl) ?_) | ((with_reducible refine gate_ (.load 46 (.tmp 2)) rfl ?_); refine load_blk rfl 46 (.tmp 2) rfl w.heap.size _ 46 rfl _ HU.out.1.1 Try.underlying46 rfl (by kernel_rfl) ?_) | (go_at_call 27; refine (rampartref17_found.calls _ _ _ _ _ _ _ _ _ _ _ _ _ _ _ _ _ _ _ _ _ _ _ _ _ _ _ _ _ _ _ _ _ _ _ _ _ _ _ _ _ _ _ _ _ _ _ _ _ HF.out).mono ?_; rintro e w3 ⟨rfl, hb3⟩; have HZ := Aside0.mk (HU.out.1.below hb3); clear hb3 z0 z1 z2 z3 z4 z5 z6 z7 z8 z9 z10 z11 zf))
  change Code.wp Try.prog _ _ _ ((w3.alloc (.cells (cOp O) 31)).alloc (.cells (cRep R) 44))
  clear HU HN
  have HN : Aside0 (w.heap.size + 1 + 1 + 1 < w3.heap.size) := ⟨(Array.getElem?_eq_some_iff.1 HZ.out.2.2.2.1).1⟩
  have HU := Aside0.mk (And.intro (HZ.out.below (below_alloc (below_alloc (Below.refl _ _) (.cells (cOp O) 31)) (.cells (cRep R) 44))) (show S2 w3.heap.size O R ((w3.alloc (.cells (cOp O) 31)).alloc (.cells (cRep R) 44)) from ⟨by rw [heap_alloc_old _ _ (by rw [World.size_alloc]; omega)]; exact heap_alloc_new _ _, by rw [show w3.heap.size + 1 = (w3.alloc (.cells (cOp O) 31)).heap.size by rw [World.size_alloc]]; exact heap_alloc_new _ _⟩))
  generalize ((w3.alloc (.cells (cOp O) 31)).alloc (.cells (cRep R) 44)) = w4 at HU ⊢
  generalize w3.heap.size = g2 at HU HN ⊢
  refine wp_region_held_drew (S := S2 g2 O R) (by kernel_rfl) HU.out.2 (fun hHeld => ?_)
  refine take_at (i := 0) (v := vOp O) 56 rfl rfl (by kernel_rfl) (by kernel_rfl) (by kernel_rfl) (fun _ _ _ h => h) (yields_blk (by rfl) 31 (.tmp 12) rfl g2 _ 31 rfl _ (fun w h => h.1) Try.underlying31 rfl (by kernel_rfl)) hHeld ?_
  try simp only [Act.put, List.setIfInBounds_toArray, List.set_cons_zero, List.set_cons_succ]
  refine take_at (i := 1) (v := vRep R) 57 rfl rfl (by kernel_rfl) (by kernel_rfl) (by kernel_rfl) (fun _ _ _ h => h) (yields_blk (by rfl) 44 (.tmp 13) rfl (g2 + 1) _ 44 rfl _ (fun w h => h.2) Try.underlying44 rfl (by kernel_rfl)) hHeld ?_
  try simp only [Act.put, List.setIfInBounds_toArray, List.set_cons_zero, List.set_cons_succ]
  refine take_at (i := 2) (v := .bool b) 58 rfl rfl (by kernel_rfl) (by kernel_rfl) (by kernel_rfl) (fun _ _ _ h => h) (Or.inl ⟨by rfl, fun w _ => by first | rfl | (go_simp; done) | (go_simp; rfl)⟩) hHeld ?_
  try simp only [Act.put, List.setIfInBounds_toArray, List.set_cons_zero, List.set_cons_succ]
  have HU1 : Aside0 (BE w t o SOp.zero SRep.zero w4.drew) := ⟨HU.out.1.below (pw_below_drewN (Below.refl _ _) 1)⟩
  generalize w4.drew = w5 at HU1 hHeld ⊢
  refine wpAnyH_ready (rs := [3]) (by kernel_rfl) (by simp) ?_
  refine AllReadyH.cons rfl (fun K hK => ?_) AllReadyH.nil
  rw [if_pos (by rfl)]
  refine store_at rfl 31 (.tmp 4) (.tmp 56) rfl (w.heap.size + 1 + 1) 0 (cOp O) rfl rfl (there_of_block HU1.out.2.2.1 0 12 (by simp)) (by kernel_rfl) (by simp [Value.oneCell']) ?_
  have HQ := Aside0.mk (HU1.out.st1 O)
  have hS : S2 g2 O R (w5.setCells (w.heap.size + 1 + 1) 0 (cOp O).toList) := ⟨(far_setCells (by have := HN.out; omega) _ 0 w5).trans hHeld.1, (far_setCells (by have := HN.out; omega) _ 0 w5).trans hHeld.2⟩
  clear hHeld HU1
  generalize w5.setCells (w.heap.size + 1 + 1) 0 (cOp O).toList = w6 at HQ hS ⊢
  refine hK.out _ _ hS (fun hHeld => ?_)
  clear hK K hS
  try simp only [Act.put, List.setIfInBounds_toArray, List.set_cons_zero, List.set_cons_succ]
  refine wpAnyH_ready (rs := [4]) (by kernel_rfl) (by simp) ?_
  refine AllReadyH.cons rfl (fun K hK => ?_) AllReadyH.nil
  rw [if_pos (by rfl)]
  refine store_at rfl 44 (.tmp 5) (.tmp 57) rfl (w.heap.size + 1 + 1 + 1) 0 (cRep R) rfl rfl (there_of_block HQ.out.2.2.2.1 0 4 (by simp)) (by kernel_rfl) (by simp [Value.oneCell']) ?_
  have HR := Aside0.mk (HQ.out.st2 R)
  have hS : S2 g2 O R (w6.setCells (w.heap.size + 1 + 1 + 1) 0 (cRep R).toList) := ⟨(far_setCells (by have := HN.out; omega) _ 0 w6).trans hHeld.1, (far_setCells (by have := HN.out; omega) _ 0 w6).trans hHeld.2⟩
  clear hHeld HQ
  generalize w6.setCells (w.heap.size + 1 + 1 + 1) 0 (cRep R).toList = w7 at HR hS ⊢
  refine hK.out _ _ hS (fun hHeld => ?_)
  clear hK K hS
  try simp only [Act.put, List.setIfInBounds_toArray, List.set_cons_zero, List.set_cons_succ]
  refine take_at (i := 5) (v := .bool b) 6 rfl rfl (by kernel_rfl) (by kernel_rfl) (by kernel_rfl) (fun _ _ _ h => h) (Or.inl ⟨by rfl, fun w _ => by first | rfl | (go_simp; done) | (go_simp; rfl)⟩) hHeld ?_
  try simp only [Act.put, List.setIfInBounds_toArray, List.set_cons_zero, List.set_cons_succ]
  refine take_at (i := 6) (v := .int .i64 0) 7 rfl rfl (by kernel_rfl) (by kernel_rfl) (by kernel_rfl) (fun _ _ _ h => h) (Or.inl ⟨by rfl, fun w _ => by first | rfl | (go_simp; done) | (go_simp; rfl)⟩) hHeld ?_
  try simp only [Act.put, List.setIfInBounds_toArray, List.set_cons_zero, List.set_cons_succ]
  refine wpAnyH_done (by kernel_rfl) ?_ _
  clear hHeld
  go_wp2
  obtain ⟨c4, c3, c1, c2, hb⟩ := HR.out
  obtain ⟨z0, z1, z2, z3, z4, z5, z6, z7, z8, z9, z10, z11⟩ := op_cells c1
  obtain ⟨y0, y1, y2, y3⟩ := rep_cells (r := R) c2
  (try simp only [Exit.inBlock, Exit.then])
  refine bodyPost_ret (by simp [results, Try.results18, go_sem, z0, z1, z2, z3, z4, z5, z6, z7, z8, z9, z10, z11, y0, y1, y2, y3]; try rfl) rfl ?_
  exact ⟨by rw [HO.out, HRR.out, HBB.out], hb⟩

set_option maxRecDepth 100000 in
set_option maxHeartbeats 2000000 in
theorem RDo_3 (t : STold) (o : SOp) (w : World) (hp : ¬ placeOf o < 0) (he : enb t.ready o = true) (hnx : o.nx = 3) :
    Calls Try.prog 18 #[vTold t, vOp o] w fun e w' => e = .returned (.tuple #[vOp ({ o with nx := 4 } : SOp), vRep SRep.zero, .bool false, .int .i64 0]) ∧ Below w.heap.size w w' := by
  have HS : Aside0 _ := ⟨BE.start w t o⟩
  have h6 : Aside0 (o.nx = 3) := ⟨hnx⟩
  clear hnx
  have hd : decide (placeOf o < 0) = false := decide_eq_false hp
  have HE := Aside0.mk he
  clear hp he
  go_enter Try.func18, Try.ntmps18
  go_upto_region 7 with (first | ((with_reducible refine gate_ (.load 31 (.tmp 3)) rfl ?_); refine load_blk rfl 31 (.tmp 3) rfl (w.heap.size + 1) _ 31 rfl _ HY.out.2.1 Try.underlying31 rfl (by kernel_rfl) ?_) | ((with_reducible refine gate_ (.load 31 (.tmp 3)) rfl ?_); refine load_blk rfl 31 (.tmp 3) rfl (w.heap.size + 1) _ 31 rfl _ HX.out.2.1 Try.underlying31 rfl (by kernel_rfl) ?_) | ((with_reducible refine gate_ (.load 31 (.tmp 3)) rfl ?_); refine load_blk rfl 31 (.tmp 3) rfl (w.heap.size + 1) _ 31 rfl _ HS.out.2.1 Try.underlying31 rfl (by kernel_rfl) ?_) | ((with_reducible refine gate_ (.load 46 (.tmp 2)) rfl ?_); refine load_blk rfl 46 (.tmp 2) rfl w.heap.size _ 46 rfl _ HX.out.1 Try.underlying46 rfl (by kernel_rfl) ?_) | (go_at_call 25; refine (rampartref17_place.calls 10 o.n o.k o.a o.r o.h o.p o.nx o.ch o.ln o.sq o.ep o.pl (placeOf o) _ (rplace_ok o)).mono ?_; rintro e w1 ⟨rfl, hb1⟩; have HX := Aside0.mk (HS.out.below hb1); clear hb1) | (go_at_call 16; refine (rampartref17_Enabled.calls 10 t.rep.c t.rep.a t.rep.h t.rep.p t.op.n t.op.k t.op.a t.op.r t.op.h t.op.p t.op.nx t.op.ch t.op.ln t.op.sq t.op.ep t.op.pl t.code t.ready o.n o.k o.a o.r o.h o.p o.nx o.ch o.ln o.sq o.ep o.pl true _ (by rw [renb_ok, HE.out])).mono ?_; rintro e w2 ⟨rfl, hb2⟩; have HY := Aside0.mk (HX.out.below hb2); clear hb2))
  have HN : Aside0 (w.heap.size + 1 + 1 + 1 < w2.heap.size) := ⟨(Array.getElem?_eq_some_iff.1 HY.out.2.2.2.1).1⟩
  change Code.wp Try.prog _ _ _ (w2.alloc (.cells (cOp { o with nx := 7 }) 31))
  have HU := Aside0.mk (And.intro (HY.out.below (below_alloc (Below.refl _ _) (.cells (cOp { o with nx := 7 }) 31))) (heap_alloc_new w2 (.cells (cOp { o with nx := 7 }) 31)))
  generalize w2.alloc (.cells (cOp { o with nx := 7 }) 31) = w4 at HU ⊢
  generalize w2.heap.size = g at HU HN ⊢
  obtain ⟨z0, z1, z2, z3, z4, z5, z6, z7, z8, z9, z10, z11⟩ := op_cells HU.out.1.2.1
  have zf := op_frozen HU.out.1.2.1
  rw [h6.out] at z6
  go_upto_region 18 with fail
  have HV := Aside0.mk (HU.out.1.nx 4)
  change Code.wp Try.prog _ _ _ (w4.setCells (w.heap.size + 1) 6 [.int .i64 4])
  generalize w4.setCells (w.heap.size + 1) 6 [.int .i64 4] = w3 at HV ⊢
  clear z0 z1 z2 z3 z4 z5 z6 z7 z8 z9 z10 z11 zf
  go_wp2_with (first | ((with_reducible refine gate_ (.load 31 (.tmp 3)) rfl ?_); refine load_blk rfl 31 (.tmp 3) rfl (w.heap.size + 1) _ 31 rfl _ HV.out.2.1 Try.underlying31 rfl (by kernel_rfl) ?_) | ((with_reducible refine gate_store (p := 4) (t := 31) rfl ?_); refine store_blk rfl 31 (.tmp 4) (.tmp 62) rfl (w.heap.size + 1 + 1) 0 (cOp ({ o with nx := 4 } : SOp)) _ 31 rfl rfl HV.out.2.2.1 (by simp) (by kernel_rfl) (by simp [Value.oneCell']) ?_; intro w5 e5 hw5; have HQ := Aside0.mk (HV.out.st1 ({ o with nx := 4 } : SOp)); rw [← show w5 = _ from e5] at HQ; clear e5 hw5) | ((with_reducible refine gate_store (p := 5) (t := 44) rfl ?_); refine store_blk rfl 44 (.tmp 5) (.tmp 63) rfl (w.heap.size + 1 + 1 + 1) 0 (cRep SRep.zero) _ 44 rfl rfl HQ.out.2.2.2.1 (by simp) (by kernel_rfl) (by simp [Value.oneCell']) ?_; intro w6 e6 hw6; have HR := Aside0.mk (HQ.out.st2 SRep.zero); rw [← show w6 = _ from e6] at HR; clear e6 hw6))
  obtain ⟨c4, c3, c1, c2, hb⟩ := HR.out
  obtain ⟨z0, z1, z2, z3, z4, z5, z6, z7, z8, z9, z10, z11⟩ := op_cells c1
  obtain ⟨y0, y1, y2, y3⟩ := rep_cells (r := SRep.zero) c2
  (try simp only [Exit.inBlock, Exit.then])
  refine bodyPost_ret (by simp [results, Try.results18, go_sem, z0, z1, z2, z3, z4, z5, z6, z7, z8, z9, z10, z11, y0, y1, y2, y3]; try rfl) rfl ?_
  exact ⟨by first | rfl | simp, hb⟩

set_option maxRecDepth 100000 in
set_option maxHeartbeats 2000000 in
theorem RDo_4 (t : STold) (o : SOp) (w : World) (hp : ¬ placeOf o < 0) (he : enb t.ready o = true) (hnx : o.nx = 4) :
    Calls Try.prog 18 #[vTold t, vOp o] w fun e w' => e = .returned (.tuple #[vOp ({ o with nx := 7 } : SOp), vRep (⟨1, 0, 0, 0⟩ : SRep), .bool true, .int .i64 0]) ∧ Below w.heap.size w w' := by
  have HS : Aside0 _ := ⟨BE.start w t o⟩
  have h6 : Aside0 (o.nx = 4) := ⟨hnx⟩
  clear hnx
  have hd : decide (placeOf o < 0) = false := decide_eq_false hp
  have HE := Aside0.mk he
  clear hp he
  go_enter Try.func18, Try.ntmps18
  go_upto_region 7 with (first | ((with_reducible refine gate_ (.load 31 (.tmp 3)) rfl ?_); refine load_blk rfl 31 (.tmp 3) rfl (w.heap.size + 1) _ 31 rfl _ HY.out.2.1 Try.underlying31 rfl (by kernel_rfl) ?_) | ((with_reducible refine gate_ (.load 31 (.tmp 3)) rfl ?_); refine load_blk rfl 31 (.tmp 3) rfl (w.heap.size + 1) _ 31 rfl _ HX.out.2.1 Try.underlying31 rfl (by kernel_rfl) ?_) | ((with_reducible refine gate_ (.load 31 (.tmp 3)) rfl ?_); refine load_blk rfl 31 (.tmp 3) rfl (w.heap.size + 1) _ 31 rfl _ HS.out.2.1 Try.underlying31 rfl (by kernel_rfl) ?_) | ((with_reducible refine gate_ (.load 46 (.tmp 2)) rfl ?_); refine load_blk rfl 46 (.tmp 2) rfl w.heap.size _ 46 rfl _ HX.out.1 Try.underlying46 rfl (by kernel_rfl) ?_) | (go_at_call 25; refine (rampartref17_place.calls 10 o.n o.k o.a o.r o.h o.p o.nx o.ch o.ln o.sq o.ep o.pl (placeOf o) _ (rplace_ok o)).mono ?_; rintro e w1 ⟨rfl, hb1⟩; have HX := Aside0.mk (HS.out.below hb1); clear hb1) | (go_at_call 16; refine (rampartref17_Enabled.calls 10 t.rep.c t.rep.a t.rep.h t.rep.p t.op.n t.op.k t.op.a t.op.r t.op.h t.op.p t.op.nx t.op.ch t.op.ln t.op.sq t.op.ep t.op.pl t.code t.ready o.n o.k o.a o.r o.h o.p o.nx o.ch o.ln o.sq o.ep o.pl true _ (by rw [renb_ok, HE.out])).mono ?_; rintro e w2 ⟨rfl, hb2⟩; have HY := Aside0.mk (HX.out.below hb2); clear hb2))
  have HN : Aside0 (w.heap.size + 1 + 1 + 1 < w2.heap.size) := ⟨(Array.getElem?_eq_some_iff.1 HY.out.2.2.2.1).1⟩
  change Code.wp Try.prog _ _ _ (w2.alloc (.cells (cOp { o with nx := 7 }) 31))
  have HU := Aside0.mk (And.intro (HY.out.below (below_alloc (Below.refl _ _) (.cells (cOp { o with nx := 7 }) 31))) (heap_alloc_new w2 (.cells (cOp { o with nx := 7 }) 31)))
  generalize w2.alloc (.cells (cOp { o with nx := 7 }) 31) = w4 at HU ⊢
  generalize w2.heap.size = g at HU HN ⊢
  obtain ⟨z0, z1, z2, z3, z4, z5, z6, z7, z8, z9, z10, z11⟩ := op_cells HU.out.1.2.1
  have zf := op_frozen HU.out.1.2.1
  rw [h6.out] at z6
  go_wp2_with (first | ((with_reducible refine gate_ (.load 31 (.tmp 8)) rfl ?_); refine load_blk rfl 31 (.tmp 8) rfl g _ 31 rfl _ HU.out.2 Try.underlying31 rfl (by kernel_rfl) ?_; clear z0 z1 z2 z3 z4 z5 z6 z7 z8 z9 z10 z11 zf) | ((with_reducible refine gate_store (p := 4) (t := 31) rfl ?_); refine store_blk rfl 31 (.tmp 4) (.tmp 66) rfl (w.heap.size + 1 + 1) 0 (cOp ({ o with nx := 7 } : SOp)) _ 31 rfl rfl HU.out.1.2.2.1 (by simp) (by kernel_rfl) (by simp [Value.oneCell']) ?_; intro w5 e5 hw5; have HQ := Aside0.mk (HU.out.1.st1 ({ o with nx := 7 } : SOp)); rw [← show w5 = _ from e5] at HQ; clear e5 hw5) | ((with_reducible refine gate_store (p := 5) (t := 44) rfl ?_); refine store_blk rfl 44 (.tmp 5) (.tmp 67) rfl (w.heap.size + 1 + 1 + 1) 0 (cRep (⟨1, 0, 0, 0⟩ : SRep)) _ 44 rfl rfl HQ.out.2.2.2.1 (by simp) (by kernel_rfl) (by simp [Value.oneCell']) ?_; intro w6 e6 hw6; have HR := Aside0.mk (HQ.out.st2 (⟨1, 0, 0, 0⟩ : SRep)); rw [← show w6 = _ from e6] at HR; clear e6 hw6))
  obtain ⟨c4, c3, c1, c2, hb⟩ := HR.out
  obtain ⟨z0, z1, z2, z3, z4, z5, z6, z7, z8, z9, z10, z11⟩ := op_cells c1
  obtain ⟨y0, y1, y2, y3⟩ := rep_cells (r := (⟨1, 0, 0, 0⟩ : SRep)) c2
  (try simp only [Exit.inBlock, Exit.then])
  refine bodyPost_ret (by simp [results, Try.results18, go_sem, z0, z1, z2, z3, z4, z5, z6, z7, z8, z9, z10, z11, y0, y1, y2, y3]; try rfl) rfl ?_
  exact ⟨by first | rfl | simp, hb⟩

set_option maxRecDepth 100000 in
set_option maxHeartbeats 2000000 in
theorem RDo_6 (t : STold) (o : SOp) (w : World) (hp : ¬ placeOf o < 0) (he : enb t.ready o = true) (hnx : o.nx = 6) :
    Calls Try.prog 18 #[vTold t, vOp o] w fun e w' => e = .returned (.tuple #[vOp ({ o with nx := 7 } : SOp), vRep (⟨1, 0, 0, o.pl⟩ : SRep), .bool true, .int .i64 0]) ∧ Below w.heap.size w w' := by
  have HS : Aside0 _ := ⟨BE.start w t o⟩
  have h6 : Aside0 (o.nx = 6) := ⟨hnx⟩
  clear hnx
  have hd : decide (placeOf o < 0) = false := decide_eq_false hp
  have HE := Aside0.mk he
  clear hp he
  go_enter Try.func18, Try.ntmps18
  go_upto_region 7 with (first | ((with_reducible refine gate_ (.load 31 (.tmp 3)) rfl ?_); refine load_blk rfl 31 (.tmp 3) rfl (w.heap.size + 1) _ 31 rfl _ HY.out.2.1 Try.underlying31 rfl (by kernel_rfl) ?_) | ((with_reducible refine gate_ (.load 31 (.tmp 3)) rfl ?_); refine load_blk rfl 31 (.tmp 3) rfl (w.heap.size + 1) _ 31 rfl _ HX.out.2.1 Try.underlying31 rfl (by kernel_rfl) ?_) | ((with_reducible refine gate_ (.load 31 (.tmp 3)) rfl ?_); refine load_blk rfl 31 (.tmp 3) rfl (w.heap.size + 1) _ 31 rfl _ HS.out.2.1 Try.underlying31 rfl (by kernel_rfl) ?_) | ((with_reducible refine gate_ (.load 46 (.tmp 2)) rfl ?_); refine load_blk rfl 46 (.tmp 2) rfl w.heap.size _ 46 rfl _ HX.out.1 Try.underlying46 rfl (by kernel_rfl) ?_) | (go_at_call 25; refine (rampartref17_place.calls 10 o.n o.k o.a o.r o.h o.p o.nx o.ch o.ln o.sq o.ep o.pl (placeOf o) _ (rplace_ok o)).mono ?_; rintro e w1 ⟨rfl, hb1⟩; have HX := Aside0.mk (HS.out.below hb1); clear hb1) | (go_at_call 16; refine (rampartref17_Enabled.calls 10 t.rep.c t.rep.a t.rep.h t.rep.p t.op.n t.op.k t.op.a t.op.r t.op.h t.op.p t.op.nx t.op.ch t.op.ln t.op.sq t.op.ep t.op.pl t.code t.ready o.n o.k o.a o.r o.h o.p o.nx o.ch o.ln o.sq o.ep o.pl true _ (by rw [renb_ok, HE.out])).mono ?_; rintro e w2 ⟨rfl, hb2⟩; have HY := Aside0.mk (HX.out.below hb2); clear hb2))
  have HN : Aside0 (w.heap.size + 1 + 1 + 1 < w2.heap.size) := ⟨(Array.getElem?_eq_some_iff.1 HY.out.2.2.2.1).1⟩
  change Code.wp Try.prog _ _ _ (w2.alloc (.cells (cOp { o with nx := 7 }) 31))
  have HU := Aside0.mk (And.intro (HY.out.below (below_alloc (Below.refl _ _) (.cells (cOp { o with nx := 7 }) 31))) (heap_alloc_new w2 (.cells (cOp { o with nx := 7 }) 31)))
  generalize w2.alloc (.cells (cOp { o with nx := 7 }) 31) = w4 at HU ⊢
  generalize w2.heap.size = g at HU HN ⊢
  obtain ⟨z0, z1, z2, z3, z4, z5, z6, z7, z8, z9, z10, z11⟩ := op_cells HU.out.1.2.1
  have zf := op_frozen HU.out.1.2.1
  rw [h6.out] at z6
  go_wp2
  clear z0 z1 z2 z3 z4 z5 z6 z7 z8 z9 z10 z11 zf
  refine wp_region_held_drew (S := S3 (w.heap.size + 1) g o ({ o with nx := 7 } : SOp)) (by kernel_rfl) ⟨HU.out.1.2.1, HU.out.2⟩ (fun hHeld => ?_)
  refine take_at (i := 0) (v := vOp ({ o with nx := 7 } : SOp)) 68 rfl rfl (by kernel_rfl) (by kernel_rfl) (by kernel_rfl) (fun _ _ _ h => h) (yields_blk (by rfl) 31 (.tmp 8) rfl g _ 31 rfl _ (fun w h => h.2) Try.underlying31 rfl (by kernel_rfl)) hHeld ?_
  try simp only [Act.put, List.setIfInBounds_toArray, List.set_cons_zero, List.set_cons_succ]
  refine take_at (i := 1) (v := .pointer (some ⟨w.heap.size + 1, 11, none⟩)) 69 rfl rfl (by kernel_rfl) (by kernel_rfl) (by kernel_rfl) (fun _ _ _ h => h) (Or.inl ⟨by rfl, fun w _ => by first | rfl | (go_simp; done) | (go_simp; rfl)⟩) hHeld ?_
  try simp only [Act.put, List.setIfInBounds_toArray, List.set_cons_zero, List.set_cons_succ]
  refine take_at (i := 2) (v := .int .u64 o.pl) 70 rfl rfl (by kernel_rfl) (by kernel_rfl) (by kernel_rfl) (fun _ _ _ h => h) (Or.inl ⟨by rfl, fun w hSw => by obtain ⟨q0, q1, q2, q3, q4, q5, q6, q7, q8, q9, q10, q11⟩ := op_cells hSw.1; go_simp⟩) hHeld ?_
  try simp only [Act.put, List.setIfInBounds_toArray, List.set_cons_zero, List.set_cons_succ]
  refine take_at (i := 3) (v := vRep ⟨1, 0, 0, o.pl⟩) 71 rfl rfl (by kernel_rfl) (by kernel_rfl) (by kernel_rfl) (fun _ _ _ h => h) (Or.inl ⟨by rfl, fun w _ => by first | rfl | (go_simp; done) | (go_simp; rfl)⟩) hHeld ?_
  try simp only [Act.put, List.setIfInBounds_toArray, List.set_cons_zero, List.set_cons_succ]
  have HU1 : Aside0 (BE w t o SOp.zero SRep.zero w4.drew) := ⟨HU.out.1.below (pw_below_drewN (Below.refl _ _) 1)⟩
  generalize w4.drew = w5 at HU1 hHeld ⊢
  refine wpAnyH_ready (rs := [4]) (by kernel_rfl) (by simp) ?_
  refine AllReadyH.cons rfl (fun K hK => ?_) AllReadyH.nil
  rw [if_pos (by rfl)]
  refine store_at rfl 31 (.tmp 4) (.tmp 68) rfl (w.heap.size + 1 + 1) 0 (cOp ({ o with nx := 7 } : SOp)) rfl rfl (there_of_block HU1.out.2.2.1 0 12 (by simp)) (by kernel_rfl) (by simp [Value.oneCell']) ?_
  have HQ := Aside0.mk (HU1.out.st1 ({ o with nx := 7 } : SOp))
  have hS : S3 (w.heap.size + 1) g o ({ o with nx := 7 } : SOp) (w5.setCells (w.heap.size + 1 + 1) 0 (cOp ({ o with nx := 7 } : SOp)).toList) := ⟨(far_setCells (by have := HN.out; omega) _ 0 w5).trans hHeld.1, (far_setCells (by have := HN.out; omega) _ 0 w5).trans hHeld.2⟩
  clear hHeld HU1
  generalize w5.setCells (w.heap.size + 1 + 1) 0 (cOp ({ o with nx := 7 } : SOp)).toList = w6 at HQ hS ⊢
  refine hK.out _ _ hS (fun hHeld => ?_)
  clear hK K hS
  try simp only [Act.put, List.setIfInBounds_toArray, List.set_cons_zero, List.set_cons_succ]
  refine wpAnyH_ready (rs := [5]) (by kernel_rfl) (by simp) ?_
  refine AllReadyH.cons rfl (fun K hK => ?_) AllReadyH.nil
  rw [if_pos (by rfl)]
  refine store_at rfl 44 (.tmp 5) (.tmp 71) rfl (w.heap.size + 1 + 1 + 1) 0 (cRep (⟨1, 0, 0, o.pl⟩ : SRep)) rfl rfl (there_of_block HQ.out.2.2.2.1 0 4 (by simp)) (by kernel_rfl) (by simp [Value.oneCell']) ?_
  have HR := Aside0.mk (HQ.out.st2 (⟨1, 0, 0, o.pl⟩ : SRep))
  have hS : S3 (w.heap.size + 1) g o ({ o with nx := 7 } : SOp) (w6.setCells (w.heap.size + 1 + 1 + 1) 0 (cRep (⟨1, 0, 0, o.pl⟩ : SRep)).toList) := ⟨(far_setCells (by have := HN.out; omega) _ 0 w6).trans hHeld.1, (far_setCells (by have := HN.out; omega) _ 0 w6).trans hHeld.2⟩
  clear hHeld HQ
  generalize w6.setCells (w.heap.size + 1 + 1 + 1) 0 (cRep (⟨1, 0, 0, o.pl⟩ : SRep)).toList = w7 at HR hS ⊢
  refine hK.out _ _ hS (fun hHeld => ?_)
  clear hK K hS
  try simp only [Act.put, List.setIfInBounds_toArray, List.set_cons_zero, List.set_cons_succ]
  refine take_at (i := 6) (v := .bool true) 6 rfl rfl (by kernel_rfl) (by kernel_rfl) (by kernel_rfl) (fun _ _ _ h => h) (Or.inl ⟨by rfl, fun w _ => by first | rfl | (go_simp; done) | (go_simp; rfl)⟩) hHeld ?_
  try simp only [Act.put, List.setIfInBounds_toArray, List.set_cons_zero, List.set_cons_succ]
  refine take_at (i := 7) (v := .int .i64 0) 7 rfl rfl (by kernel_rfl) (by kernel_rfl) (by kernel_rfl) (fun _ _ _ h => h) (Or.inl ⟨by rfl, fun w _ => by first | rfl | (go_simp; done) | (go_simp; rfl)⟩) hHeld ?_
  try simp only [Act.put, List.setIfInBounds_toArray, List.set_cons_zero, List.set_cons_succ]
  refine wpAnyH_done (by kernel_rfl) ?_ _
  clear hHeld
  go_wp2
  obtain ⟨c4, c3, c1, c2, hb⟩ := HR.out
  obtain ⟨z0, z1, z2, z3, z4, z5, z6, z7, z8, z9, z10, z11⟩ := op_cells c1
  obtain ⟨y0, y1, y2, y3⟩ := rep_cells (r := (⟨1, 0, 0, o.pl⟩ : SRep)) c2
  (try simp only [Exit.inBlock, Exit.then])
  refine bodyPost_ret (by simp [results, Try.results18, go_sem, z0, z1, z2, z3, z4, z5, z6, z7, z8, z9, z10, z11, y0, y1, y2, y3]; try rfl) rfl ?_
  exact ⟨by first | rfl | simp, hb⟩

theorem RDo_calls (t : STold) (o : SOp) (w : World) :
    Calls Try.prog 18 #[vTold t, vOp o] w fun e w' => e = .returned (.tuple #[vOp (doR t o).1, vRep (doR t o).2.1, .bool (doR t o).2.2.1, .int .i64 (doR t o).2.2.2]) ∧ Below w.heap.size w w' := by
  by_cases hp : placeOf o < 0
  · have e : doR t o = (SOp.zero, SRep.zero, false, 170) := by unfold doR; rw [if_pos hp]
    rw [e]
    exact RDo_over t o w hp
  · cases he : enb t.ready o with
    | false =>
      have e : doR t o = (SOp.zero, SRep.zero, false, 171) := by unfold doR; rw [if_neg hp, if_neg (by rw [he]; decide)]
      rw [e]
      exact RDo_blocked t o w hp he
    | true =>
      have e : doR t o = ((doOp t o).1, (doOp t o).2.1, (doOp t o).2.2, 0) := by unfold doR; rw [if_neg hp, if_pos he]
      rw [e]
      unfold doOp
      rcases place_nx o (by omega) with h | h | h | h | h | h <;> simp only [h, if_true, Int.reduceEq, if_false]
      · exact RDo_1 t o w hp he h
      · exact RDo_2 t o w hp he h
      · exact RDo_3 t o w hp he h
      · exact RDo_4 t o w hp he h
      · exact RDo_5 t o w hp he h
      · exact RDo_6 t o w hp he h
end Go.Proofs.Ytooddkaepkjidaa.QSt
