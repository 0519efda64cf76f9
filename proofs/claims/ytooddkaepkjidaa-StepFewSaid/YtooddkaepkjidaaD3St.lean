/- Step: a micro-step (does) that is the only one: its region draws its order. -/
import Derived.Test.YtooddkaepkjidaaDSt
import Derived.Test.YtooddkaepkjidaaBSt
namespace Go.Proofs.Ytooddkaepkjidaa.QSt
open Go.RowKit Go.Proofs.YtooddkaepkjidaaW.PrintWords Go.Proofs.YtooddkaepkjidaaW.PrintLast Go.Proofs.YtooddkaepkjidaaW.PrintMore
set_option linter.unusedVariables false
set_option linter.unusedSimpArgs false
attribute [local go_sem] cs_off

/-- What the region reads. -/
def Two (g : Nat) (o : SOp) (x y : Int) (w : World) : Prop :=
  w.heap[g]? = some (.cells (cOp o) 31 (0, 0)) ∧ w.heap[g + 1]? = some (.cells #[.int .i64 x, .int .i64 y] 48 (0, 0))

set_option maxRecDepth 100000 in
set_option maxHeartbeats 2000000 in
theorem does_Once (B : Nat) (s : WS) (o : SOp) (x y : Int) (w0 w : World) (h : WP B w0 s w) (hl : s.qs.length < 1000) :
    Calls Try.prog 26 #[vW B, vOp { o with nx := 1 }, .agg #[.int .i64 x, .int .i64 y]] w fun e w' =>
      e = .returned (.tuple #[vOp { o with nx := 7 }, vRep s.t.rep, .bool true]) ∧ WP B w0 { s with qs := s.qs ++ [1], l := { o with nx := 1 }, a0 := x, a1 := y } w' ∧ KB B w w' := by
  have H := Aside0.mk h
  have hB : Aside0 (B < w.heap.size) := ⟨h.lt⟩
  clear h
  go_enter Try.func26, Try.ntmps26
  go_wp2_with fail
  have H1 := ((((H.out.alloc (.cells (cOp { o with nx := 1 }) 31)).alloc (.cells #[.int .i64 x, .int .i64 y] 48)).alloc (.cells (cOp SOp.zero) 31)).alloc (.cells #[.int .u8 SRep.zero.c, .int .u8 SRep.zero.a, .int .u32 SRep.zero.h, .int .u64 SRep.zero.p] 44))
  have BX := boxes4_of (B := B) (w := w) (o := { o with nx := 1 }) (x := x) (y := y) hB.out (KB.refl B _)
  have K1 := ((((KB.refl B w).alloc (.cells (cOp { o with nx := 1 }) 31)).alloc (.cells #[.int .i64 x, .int .i64 y] 48)).alloc (.cells (cOp SOp.zero) 31)).alloc (.cells #[.int .u8 SRep.zero.c, .int .u8 SRep.zero.a, .int .u32 SRep.zero.h, .int .u64 SRep.zero.p] 44)
  change Code.wp Try.prog _ _ _ ((((w.alloc (.cells (cOp { o with nx := 1 }) 31)).alloc (.cells #[.int .i64 x, .int .i64 y] 48)).alloc (.cells (cOp SOp.zero) 31)).alloc (.cells #[.int .u8 SRep.zero.c, .int .u8 SRep.zero.a, .int .u32 SRep.zero.h, .int .u64 SRep.zero.p] 44))
  generalize ((((w.alloc (.cells (cOp { o with nx := 1 }) 31)).alloc (.cells #[.int .i64 x, .int .i64 y] 48)).alloc (.cells (cOp SOp.zero) 31)).alloc (.cells #[.int .u8 SRep.zero.c, .int .u8 SRep.zero.a, .int .u32 SRep.zero.h, .int .u64 SRep.zero.p] 44)) = w2 at H1 BX K1 ⊢
  have HX := Aside0.mk (And.intro H1 (And.intro K1 BX))
  clear H1 K1 BX
  refine wp_region_held_drew (S := Two w.heap.size { o with nx := 1 } x y) (by kernel_rfl) ⟨HX.out.2.2.1, HX.out.2.2.2.1⟩ (fun hHeld => ?_)
  refine take_at (i := 0) (v := vOp { o with nx := 1 }) 13 rfl rfl (by kernel_rfl) (by kernel_rfl) (by kernel_rfl) (fun _ _ _ h => h) (yields_blk (by rfl) 31 (.tmp 4) rfl w.heap.size _ 31 rfl _ (fun w h => h.1) Try.underlying31 rfl (by kernel_rfl)) hHeld ?_
  try simp only [Act.put, List.setIfInBounds_toArray, List.set_cons_zero, List.set_cons_succ]
  refine take_at (i := 1) (v := vW B) 14 rfl rfl (by kernel_rfl) (by kernel_rfl) (by kernel_rfl) (fun _ _ _ h => h) (Or.inl ⟨by rfl, fun w _ => by rfl⟩) hHeld ?_
  try simp only [Act.put, List.setIfInBounds_toArray, List.set_cons_zero, List.set_cons_succ]
  refine take_at (i := 2) (v := vOp { o with nx := 1 }) 15 rfl rfl (by kernel_rfl) (by kernel_rfl) (by kernel_rfl) (fun _ _ _ h => h) (yields_blk (by rfl) 31 (.tmp 4) rfl w.heap.size _ 31 rfl _ (fun w h => h.1) Try.underlying31 rfl (by kernel_rfl)) hHeld ?_
  try simp only [Act.put, List.setIfInBounds_toArray, List.set_cons_zero, List.set_cons_succ]
  refine take_at (i := 3) (v := .agg #[.int .i64 x, .int .i64 y]) 16 rfl rfl (by kernel_rfl) (by kernel_rfl) (by kernel_rfl) (fun _ _ _ h => h) (yields_blk (by rfl) 48 (.tmp 5) rfl (w.heap.size + 1) _ 48 rfl _ (fun w h => h.2) Try.underlying48 rfl (by kernel_rfl)) hHeld ?_
  try simp only [Act.put, List.setIfInBounds_toArray, List.set_cons_zero, List.set_cons_succ]
  refine wpAnyH_ready (rs := [4]) (by kernel_rfl) (by simp) ?_
  refine AllReadyH.cons rfl (fun K hK => ?_) AllReadyH.nil
  go_simp
  go_wp2_with (first | (go_at_call 48; refine (Once_calls B s { o with nx := 1 } x y w0 _ (HX.out.1.drewN 1) hl).mono ?_; rintro e w3 ⟨rfl, hw3, hk3⟩; have HY := Aside0.mk (And.intro hw3 (And.intro (HX.out.2.1.trans ((KB.of_below (pw_below_drewN (Below.refl _ _) 1)).trans hk3)) (And.intro (hk3 _ _ _ (by have := hB.out; omega) (by decide) HX.out.2.2.1) (And.intro (hk3 _ _ _ (by have := hB.out; omega) (by decide) HX.out.2.2.2.1) (And.intro (hk3 _ _ _ (by have := hB.out; omega) (by decide) HX.out.2.2.2.2.1) (hk3 _ _ _ (by have := hB.out; omega) (by decide) HX.out.2.2.2.2.2)))))); clear hw3 hk3))
  clear hHeld
  refine hK.out _ _ ⟨HY.out.2.2.1, HY.out.2.2.2.1⟩ (fun hHeld => ?_)
  clear hK K
  try simp only [Act.put, List.setIfInBounds_toArray, List.set_cons_zero, List.set_cons_succ]
  refine wpAnyH_ready (rs := [5]) (by kernel_rfl) (by simp) ?_
  refine AllReadyH.cons rfl (fun K hK => ?_) AllReadyH.nil
  go_simp
  go_wp2_with (first | (go_at_call 29; refine (over_calls { o with nx := 1 } s.t.rep _).mono ?_; rintro e w4 ⟨rfl, hb4⟩; have HZ := Aside0.mk (And.intro (HY.out.1.below hb4) (And.intro (HY.out.2.1.trans (KB.of_below hb4)) (And.intro ((hb4.block _ (Array.getElem?_eq_some_iff.1 HY.out.2.2.1).1).trans HY.out.2.2.1) (And.intro ((hb4.block _ (Array.getElem?_eq_some_iff.1 HY.out.2.2.2.1).1).trans HY.out.2.2.2.1) (And.intro ((hb4.block _ (Array.getElem?_eq_some_iff.1 HY.out.2.2.2.2.1).1).trans HY.out.2.2.2.2.1) ((hb4.block _ (Array.getElem?_eq_some_iff.1 HY.out.2.2.2.2.2).1).trans HY.out.2.2.2.2.2)))))); clear hb4))
  clear hHeld
  refine hK.out _ _ ⟨HZ.out.2.2.1, HZ.out.2.2.2.1⟩ (fun hHeld => ?_)
  clear hK K
  try simp only [Act.put, List.setIfInBounds_toArray, List.set_cons_zero, List.set_cons_succ]
  refine take_at (i := 6) (v := vOp { o with nx := 7 }) 19 rfl rfl (by kernel_rfl) (by kernel_rfl) (by kernel_rfl) (fun _ _ _ h => h) (Or.inl ⟨by rfl, fun w _ => by rfl⟩) hHeld ?_
  try simp only [Act.put, List.setIfInBounds_toArray, List.set_cons_zero, List.set_cons_succ]
  refine take_at (i := 7) (v := vRep s.t.rep) 20 rfl rfl (by kernel_rfl) (by kernel_rfl) (by kernel_rfl) (fun _ _ _ h => h) (Or.inl ⟨by rfl, fun w _ => by rfl⟩) hHeld ?_
  try simp only [Act.put, List.setIfInBounds_toArray, List.set_cons_zero, List.set_cons_succ]
  refine take_at (i := 8) (v := .bool true) 21 rfl rfl (by kernel_rfl) (by kernel_rfl) (by kernel_rfl) (fun _ _ _ h => h) (Or.inl ⟨by rfl, fun w _ => by rfl⟩) hHeld ?_
  try simp only [Act.put, List.setIfInBounds_toArray, List.set_cons_zero, List.set_cons_succ]
  refine wpAnyH_ready (rs := [9]) (by kernel_rfl) (by simp) ?_
  refine AllReadyH.cons rfl (fun K hK => ?_) AllReadyH.nil
  rw [if_pos (by rfl)]
  refine store_at rfl 31 (.tmp 6) (.tmp 19) rfl (w.heap.size + 1 + 1) 0 (cOp { o with nx := 7 }) rfl rfl (there_of_block HZ.out.2.2.2.2.1 0 12 (by simp)) (by kernel_rfl) (by simp [Value.oneCell']) ?_
  have e2 := stored_op' (x := { o with nx := 7 }) HZ.out.1 HZ.out.2.1 (by have := hB.out; omega) (by omega) (by omega) HZ.out.2.2.2.2.1 HZ.out.2.2.2.2.2
  have HQ := Aside0.mk (And.intro e2 (And.intro ((far_setCells (g := w.heap.size + 1 + 1) (k := w.heap.size) (by omega) (cOp { o with nx := 7 }).toList 0 w4).trans HZ.out.2.2.1) ((far_setCells (g := w.heap.size + 1 + 1) (k := w.heap.size + 1) (by omega) (cOp { o with nx := 7 }).toList 0 w4).trans HZ.out.2.2.2.1)))
  clear e2 hHeld
  generalize w4.setCells (w.heap.size + 1 + 1) 0 (cOp { o with nx := 7 }).toList = w5 at HQ ⊢
  refine hK.out _ _ ⟨HQ.out.2.1, HQ.out.2.2⟩ (fun hHeld => ?_)
  clear hK K
  try simp only [Act.put, List.setIfInBounds_toArray, List.set_cons_zero, List.set_cons_succ]
  refine wpAnyH_ready (rs := [10]) (by kernel_rfl) (by simp) ?_
  refine AllReadyH.cons rfl (fun K hK => ?_) AllReadyH.nil
  rw [if_pos (by rfl)]
  refine store_at rfl 44 (.tmp 7) (.tmp 20) rfl (w.heap.size + 1 + 1 + 1) 0 #[.int .u8 s.t.rep.c, .int .u8 s.t.rep.a, .int .u32 s.t.rep.h, .int .u64 s.t.rep.p] rfl rfl (there_of_block HQ.out.1.2.2.2 0 4 (by simp)) (by kernel_rfl) (by simp [Value.oneCell']) ?_
  have e2 := stored_rep' (x := s.t.rep) HQ.out.1.1 HQ.out.1.2.1 (by have := hB.out; omega) (by omega) (by omega) HQ.out.1.2.2.1 HQ.out.1.2.2.2
  have HR := Aside0.mk (And.intro e2 (And.intro ((far_setCells (g := w.heap.size + 1 + 1 + 1) (k := w.heap.size) (by omega) #[Value.int .u8 s.t.rep.c, Value.int .u8 s.t.rep.a, Value.int .u32 s.t.rep.h, Value.int .u64 s.t.rep.p].toList 0 w5).trans HQ.out.2.1) ((far_setCells (g := w.heap.size + 1 + 1 + 1) (k := w.heap.size + 1) (by omega) #[Value.int .u8 s.t.rep.c, Value.int .u8 s.t.rep.a, Value.int .u32 s.t.rep.h, Value.int .u64 s.t.rep.p].toList 0 w5).trans HQ.out.2.2)))
  clear e2 hHeld
  generalize w5.setCells (w.heap.size + 1 + 1 + 1) 0 #[Value.int .u8 s.t.rep.c, Value.int .u8 s.t.rep.a, Value.int .u32 s.t.rep.h, Value.int .u64 s.t.rep.p].toList = w6 at HR ⊢
  refine hK.out _ _ ⟨HR.out.2.1, HR.out.2.2⟩ (fun hHeld => ?_)
  clear hK K
  try simp only [Act.put, List.setIfInBounds_toArray, List.set_cons_zero, List.set_cons_succ]
  refine take_at (i := 11) (v := .bool true) 8 rfl rfl (by kernel_rfl) (by kernel_rfl) (by kernel_rfl) (fun _ _ _ h => h) (Or.inl ⟨by rfl, fun w _ => by rfl⟩) hHeld ?_
  try simp only [Act.put, List.setIfInBounds_toArray, List.set_cons_zero, List.set_cons_succ]
  refine wpAnyH_done (by kernel_rfl) ?_ _
  clear hHeld
  go_wp2
  obtain ⟨H5, K5, c1, c2⟩ := HR.out.1
  obtain ⟨z0, z1, z2, z3, z4, z5, z6, z7, z8, z9, z10, z11⟩ := op_cells c1
  obtain ⟨y0, y1, y2, y3⟩ := rep_cells (r := s.t.rep) c2
  (try simp only [Exit.inBlock, Exit.then])
  refine bodyPost_ret (by simp [results, Try.results26, go_sem, z0, z1, z2, z3, z4, z5, z6, z7, z8, z9, z10, z11, y0, y1, y2, y3]; try rfl) rfl ?_
  exact ⟨by first | rfl | simp, H5, K5⟩
end Go.Proofs.Ytooddkaepkjidaa.QSt
