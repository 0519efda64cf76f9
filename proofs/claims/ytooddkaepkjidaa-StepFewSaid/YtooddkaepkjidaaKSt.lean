/- Step: does at whatever micro-step; Do. Written by a program of this repo (tools/gen_do.py). -/
import Derived.Test.YtooddkaepkjidaaFSt
import Derived.Test.YtooddkaepkjidaaD2St
import Derived.Test.YtooddkaepkjidaaD3St
namespace Go.Proofs.Ytooddkaepkjidaa.QSt
open Go.RowKit Go.Proofs.YtooddkaepkjidaaW.PrintWords Go.Proofs.YtooddkaepkjidaaW.PrintLast Go.Proofs.YtooddkaepkjidaaW.PrintMore
set_option linter.unusedVariables false
set_option linter.unusedSimpArgs false
attribute [local go_sem] cs_off

theorem asked_rd (s : WS) (o : SOp) (x y r : Int) : asked { s with rd := r } o x y = { asked s o x y with rd := r } := by
  unfold asked; split <;> rfl
theorem does_calls (B : Nat) (s : WS) (o : SOp) (x y : Int) (w0 w : World) (h : WP B w0 s w) (hl : s.qs.length < 1000) (hp : 0 ≤ placeOf o) :
    Calls Try.prog 26 #[vW B, vOp o, .agg #[.int .i64 x, .int .i64 y]] w fun e w' =>
      e = .returned (.tuple #[vOp (doOp s.t o).1, vRep (doOp s.t o).2.1, .bool (doOp s.t o).2.2]) ∧ WP B w0 (asked s o x y) w' ∧ KB B w w' := by
  have hn := place_nx o hp
  clear hp
  obtain ⟨n, k, a, r, hh, p, nx, ch, ln, sq, ep, pp⟩ := o
  dsimp only at hn
  rcases hn with rfl | rfl | rfl | rfl | rfl | rfl
  · exact does_Once B s ⟨n, k, a, r, hh, p, 1, ch, ln, sq, ep, pp⟩ x y w0 w h hl
  · exact does_Claim B s ⟨n, k, a, r, hh, p, 2, ch, ln, sq, ep, pp⟩ x y w0 w h hl
  · exact does_Write B s ⟨n, k, a, r, hh, p, 3, ch, ln, sq, ep, pp⟩ x y w0 w h hl
  · exact does_Publish B s ⟨n, k, a, r, hh, p, 4, ch, ln, sq, ep, pp⟩ x y w0 w h hl
  · exact does_Take B s ⟨n, k, a, r, hh, p, 5, ch, ln, sq, ep, pp⟩ x y w0 w h hl
  · exact does_Retire B s ⟨n, k, a, r, hh, p, 6, ch, ln, sq, ep, pp⟩ x y w0 w h hl

theorem does_calls' (B : Nat) (s : WS) (o : SOp) (x y : Int) (O : SOp) (R : SRep) (b : Bool) (hD : doOp s.t o = (O, R, b)) (w0 w : World) (h : WP B w0 s w) (hl : s.qs.length < 1000) (hp : 0 ≤ placeOf o) :
    Calls Try.prog 26 #[vW B, vOp o, .agg #[.int .i64 x, .int .i64 y]] w fun e w' =>
      e = .returned (.tuple #[vOp O, vRep R, .bool b]) ∧ WP B w0 (asked s o x y) w' ∧ KB B w w' := by
  have := does_calls B s o x y w0 w h hl hp
  rw [hD] at this
  exact this

theorem Boxes4.kb {B : Nat} {w w1 w2 : World} {o : SOp} {x y : Int} (h : Boxes4 w w1 o x y) (hB : B < w.heap.size) (k : KB B w1 w2) : Boxes4 w w2 o x y :=
  ⟨k _ _ _ (by omega) (by decide) h.1, k _ _ _ (by omega) (by decide) h.2.1, k _ _ _ (by omega) (by decide) h.2.2.1, k _ _ _ (by omega) (by decide) h.2.2.2⟩
/-- What is kept from call to call. -/
def HD (B : Nat) (w0 w : World) (s : WS) (o : SOp) (x y : Int) (w1 : World) : Prop := WP B w0 s w1 ∧ KB B w w1 ∧ Boxes4 w w1 o x y
theorem HD.below {B : Nat} {w0 w w1 w2 : World} {s : WS} {o : SOp} {x y : Int} (h : HD B w0 w s o x y w1) (hB : B < w.heap.size) (hb : Below w1.heap.size w1 w2) : HD B w0 w s o x y w2 :=
  ⟨h.1.below hb, h.2.1.trans (KB.of_below hb), h.2.2.kb hB (KB.of_below hb)⟩
theorem HD.kb {B : Nat} {w0 w w1 w2 : World} {s s' : WS} {o : SOp} {x y : Int} (h : HD B w0 w s o x y w1) (hB : B < w.heap.size) (hw : WP B w0 s' w2) (hk : KB B w1 w2) : HD B w0 w s' o x y w2 :=
  ⟨hw, h.2.1.trans hk, h.2.2.kb hB hk⟩
theorem HD.start {B : Nat} {w0 w : World} {s : WS} (h : WP B w0 s w) (o : SOp) (x y : Int) : HD B w0 w s o x y ((((w.alloc (.cells (cOp o) 31)).alloc (.cells #[.int .i64 x, .int .i64 y] 48)).alloc (.cells (cOp SOp.zero) 31)).alloc (.cells #[.int .u8 SRep.zero.c, .int .u8 SRep.zero.a, .int .u32 SRep.zero.h, .int .u64 SRep.zero.p] 44)) :=
  ⟨(((h.alloc _).alloc _).alloc _).alloc _, ((((KB.refl B w).alloc _).alloc _).alloc _).alloc _, boxes4_of (B := B) h.lt (KB.refl B _)⟩
/-- What the region behind a micro-step reads. -/
def Two' (g : Nat) (o : SOp) (r : SRep) (w : World) : Prop :=
  w.heap[g]? = some (.cells (cOp o) 31 (0, 0)) ∧ w.heap[g + 1]? = some (.cells #[.int .u8 r.c, .int .u8 r.a, .int .u32 r.h, .int .u64 r.p] 44 (0, 0))
/-- The two results are stored. -/
theorem HD.stored {B : Nat} {w0 w w1 : World} {s : WS} {o : SOp} {x y : Int} (h : HD B w0 w s o x y w1) (hB : B < w.heap.size) (O : SOp) (R : SRep) :
    ∃ C : Prop, C ∧ (C → WP B w0 s ((w1.setCells (w.heap.size + 1 + 1) 0 (cOp O).toList).setCells (w.heap.size + 1 + 1 + 1) 0 #[Value.int .u8 R.c, Value.int .u8 R.a, Value.int .u32 R.h, Value.int .u64 R.p].toList) ∧ KB B w ((w1.setCells (w.heap.size + 1 + 1) 0 (cOp O).toList).setCells (w.heap.size + 1 + 1 + 1) 0 #[Value.int .u8 R.c, Value.int .u8 R.a, Value.int .u32 R.h, Value.int .u64 R.p].toList) ∧
      ((w1.setCells (w.heap.size + 1 + 1) 0 (cOp O).toList).setCells (w.heap.size + 1 + 1 + 1) 0 #[Value.int .u8 R.c, Value.int .u8 R.a, Value.int .u32 R.h, Value.int .u64 R.p].toList).heap[w.heap.size + 1 + 1]? = some (.cells (cOp O) 31 (0, 0)) ∧
      ((w1.setCells (w.heap.size + 1 + 1) 0 (cOp O).toList).setCells (w.heap.size + 1 + 1 + 1) 0 #[Value.int .u8 R.c, Value.int .u8 R.a, Value.int .u32 R.h, Value.int .u64 R.p].toList).heap[w.heap.size + 1 + 1 + 1]? = some (.cells #[.int .u8 R.c, .int .u8 R.a, .int .u32 R.h, .int .u64 R.p] 44 (0, 0))) := by
  have e2 := stored_op' (x := O) h.1 h.2.1 (by omega) (by omega) (by omega) h.2.2.2.2.1 h.2.2.2.2.2
  have e3 := stored_rep' (x := R) e2.1 e2.2.1 (by omega) (by omega) (by omega) e2.2.2.1 e2.2.2.2
  exact ⟨True, trivial, fun _ => e3⟩
set_option maxRecDepth 100000 in
set_option maxHeartbeats 2000000 in
theorem Do_over (B : Nat) (s : WS) (o : SOp) (x y : Int) (w0 w : World) (h : WP B w0 s w) (hl : s.qs.length < 1000) (hp : placeOf o < 0) :
    Calls Try.prog 17 #[vW B, vOp o, .agg #[.int .i64 x, .int .i64 y]] w fun e w' => e = .returned (.tuple #[vOp SOp.zero, vRep SRep.zero, .bool false, .int .i64 170]) ∧ (∃ r, WP B w0 { s with rd := r } w') ∧ KB B w w' := by
  have HS : Aside0 _ := ⟨HD.start h o x y⟩
  have hB : Aside0 (B < w.heap.size) := ⟨h.lt⟩
  clear h
  have hd : leftOf o = 0 := by unfold leftOf; rw [if_pos hp]
  have hd' : (leftOf o == 0) = true := by rw [hd]; rfl
  clear hp
  go_enter Try.func17, Try.ntmps17
  go_wp2_with (first | (go_at_call 12; refine (step_Left.calls 10 o.n o.k o.a o.r o.h o.p o.nx o.ch o.ln o.sq o.ep o.pl (leftOf o) _ (left_ok o)).mono ?_; rintro e w1 ⟨rfl, hb1⟩; have HX := Aside0.mk (HS.out.below hB.out hb1); obtain ⟨z0, z1, z2, z3, z4, z5, z6, z7, z8, z9, z10, z11⟩ := op_cells HX.out.2.2.1; clear hb1) | ((with_reducible refine gate_store (p := 6) (t := 31) rfl ?_); refine store_blk rfl 31 (.tmp 6) (.tmp 22) rfl (w.heap.size + 1 + 1) 0 (cOp SOp.zero) _ 31 rfl rfl HX.out.2.2.2.2.1 (by simp) (by kernel_rfl) (by simp [Value.oneCell']) ?_; intro w4 e4 hw4; have HQ := Aside0.mk (stored_op' (x := SOp.zero) HX.out.1 HX.out.2.1 (by have := hB.out; omega) (by omega) (by omega) HX.out.2.2.2.2.1 HX.out.2.2.2.2.2); rw [← show w4 = _ from e4] at HQ; clear e4 hw4) | ((with_reducible refine gate_store (p := 7) (t := 44) rfl ?_); refine store_blk rfl 44 (.tmp 7) (.tmp 23) rfl (w.heap.size + 1 + 1 + 1) 0 #[.int .u8 SRep.zero.c, .int .u8 SRep.zero.a, .int .u32 SRep.zero.h, .int .u64 SRep.zero.p] _ 44 rfl rfl HQ.out.2.2.2 (by simp) (by kernel_rfl) (by simp [Value.oneCell']) ?_; intro w5 e5 hw5; have HR := Aside0.mk (stored_rep' (x := SRep.zero) HQ.out.1 HQ.out.2.1 (by have := hB.out; omega) (by omega) (by omega) HQ.out.2.2.1 HQ.out.2.2.2); rw [← show w5 = _ from e5] at HR; clear e5 hw5))
  obtain ⟨H5, K5, c1, c2⟩ := HR.out
  clear z0 z1 z2 z3 z4 z5 z6 z7 z8 z9 z10 z11
  obtain ⟨z0, z1, z2, z3, z4, z5, z6, z7, z8, z9, z10, z11⟩ := op_cells c1
  obtain ⟨y0, y1, y2, y3⟩ := rep_cells (r := SRep.zero) c2
  (try simp only [Exit.inBlock, Exit.then])
  refine bodyPost_ret (by simp [results, Try.results17, go_sem, z0, z1, z2, z3, z4, z5, z6, z7, z8, z9, z10, z11, y0, y1, y2, y3]; try rfl) rfl ?_
  exact ⟨by first | rfl | simp, ⟨_, H5⟩, K5⟩

set_option maxRecDepth 100000 in
set_option maxHeartbeats 2000000 in
theorem Do_blocked (B : Nat) (s : WS) (o : SOp) (x y : Int) (w0 w : World) (h : WP B w0 s w) (hl : s.qs.length < 1000) (hp : 0 ≤ placeOf o) (he : enb s.t.ready o = false) :
    Calls Try.prog 17 #[vW B, vOp o, .agg #[.int .i64 x, .int .i64 y]] w fun e w' => e = .returned (.tuple #[vOp SOp.zero, vRep SRep.zero, .bool false, .int .i64 171]) ∧ (∃ r, WP B w0 { s with rd := r } w') ∧ KB B w w' := by
  have HS : Aside0 _ := ⟨HD.start h o x y⟩
  have hB : Aside0 (B < w.heap.size) := ⟨h.lt⟩
  clear h
  have hd' : (leftOf o == 0) = false := beq_false_of_ne (by have := (left_pos o).2 hp; omega)
  clear hp
  go_enter Try.func17, Try.ntmps17
  go_wp2_with (first | (go_at_call 12; refine (step_Left.calls 10 o.n o.k o.a o.r o.h o.p o.nx o.ch o.ln o.sq o.ep o.pl (leftOf o) _ (left_ok o)).mono ?_; rintro e w1 ⟨rfl, hb1⟩; have HX := Aside0.mk (HS.out.below hB.out hb1); obtain ⟨z0, z1, z2, z3, z4, z5, z6, z7, z8, z9, z10, z11⟩ := op_cells HX.out.2.2.1; clear hb1) | (go_at_call 15; refine (Enabled_calls B s o w0 _ HX.out.1).mono ?_; rintro e w2 ⟨rfl, ⟨rr, hw2⟩, hk2⟩; have HY := Aside0.mk (HX.out.kb hB.out hw2 hk2); clear z0 z1 z2 z3 z4 z5 z6 z7 z8 z9 z10 z11; obtain ⟨z0, z1, z2, z3, z4, z5, z6, z7, z8, z9, z10, z11⟩ := op_cells HY.out.2.2.1; obtain ⟨y0, y1⟩ := two_cells HY.out.2.2.2.1; clear hw2 hk2) | ((with_reducible refine gate_store (p := 6) (t := 31) rfl ?_); refine store_blk rfl 31 (.tmp 6) (.tmp 29) rfl (w.heap.size + 1 + 1) 0 (cOp SOp.zero) _ 31 rfl rfl HY.out.2.2.2.2.1 (by simp) (by kernel_rfl) (by simp [Value.oneCell']) ?_; intro w4 e4 hw4; have HQ := Aside0.mk (stored_op' (x := SOp.zero) HY.out.1 HY.out.2.1 (by have := hB.out; omega) (by omega) (by omega) HY.out.2.2.2.2.1 HY.out.2.2.2.2.2); rw [← show w4 = _ from e4] at HQ; clear e4 hw4) | ((with_reducible refine gate_store (p := 7) (t := 44) rfl ?_); refine store_blk rfl 44 (.tmp 7) (.tmp 30) rfl (w.heap.size + 1 + 1 + 1) 0 #[.int .u8 SRep.zero.c, .int .u8 SRep.zero.a, .int .u32 SRep.zero.h, .int .u64 SRep.zero.p] _ 44 rfl rfl HQ.out.2.2.2 (by simp) (by kernel_rfl) (by simp [Value.oneCell']) ?_; intro w5 e5 hw5; have HR := Aside0.mk (stored_rep' (x := SRep.zero) HQ.out.1 HQ.out.2.1 (by have := hB.out; omega) (by omega) (by omega) HQ.out.2.2.1 HQ.out.2.2.2); rw [← show w5 = _ from e5] at HR; clear e5 hw5))
  obtain ⟨H5, K5, c1, c2⟩ := HR.out
  clear z0 z1 z2 z3 z4 z5 z6 z7 z8 z9 z10 z11 y0 y1
  obtain ⟨z0, z1, z2, z3, z4, z5, z6, z7, z8, z9, z10, z11⟩ := op_cells c1
  obtain ⟨y0, y1, y2, y3⟩ := rep_cells (r := SRep.zero) c2
  (try simp only [Exit.inBlock, Exit.then])
  refine bodyPost_ret (by simp [results, Try.results17, go_sem, z0, z1, z2, z3, z4, z5, z6, z7, z8, z9, z10, z11, y0, y1, y2, y3]; try rfl) rfl ?_
  exact ⟨by first | rfl | simp, ⟨_, H5⟩, K5⟩

set_option maxRecDepth 100000 in
set_option maxHeartbeats 2000000 in
theorem Do_done (B : Nat) (s : WS) (o : SOp) (x y : Int) (w0 w : World) (h : WP B w0 s w) (hl : s.qs.length < 1000) (hp : 0 ≤ placeOf o) (he : enb s.t.ready o = true) (O : SOp) (R : SRep) (b : Bool) (hD : doOp s.t o = (O, R, b)) :
    Calls Try.prog 17 #[vW B, vOp o, .agg #[.int .i64 x, .int .i64 y]] w fun e w' => e = .returned (.tuple #[vOp O, vRep R, .bool b, .int .i64 0]) ∧ (∃ r, WP B w0 { asked s o x y with rd := r } w') ∧ KB B w w' := by
  have HS : Aside0 _ := ⟨HD.start h o x y⟩
  have hB : Aside0 (B < w.heap.size) := ⟨h.lt⟩
  clear h
  have HP := Aside0.mk hp
  have HDD := Aside0.mk hD
  have hd' : (leftOf o == 0) = false := beq_false_of_ne (by have := (left_pos o).2 hp; omega)
  clear hp hD
  go_enter Try.func17, Try.ntmps17
  go_wp2_with (first | (go_at_call 12; refine (step_Left.calls 10 o.n o.k o.a o.r o.h o.p o.nx o.ch o.ln o.sq o.ep o.pl (leftOf o) _ (left_ok o)).mono ?_; rintro e w1 ⟨rfl, hb1⟩; have HX := Aside0.mk (HS.out.below hB.out hb1); obtain ⟨z0, z1, z2, z3, z4, z5, z6, z7, z8, z9, z10, z11⟩ := op_cells HX.out.2.2.1; clear hb1) | (go_at_call 15; refine (Enabled_calls B s o w0 _ HX.out.1).mono ?_; rintro e w2 ⟨rfl, ⟨rr, hw2⟩, hk2⟩; have HY := Aside0.mk (HX.out.kb hB.out hw2 hk2); clear z0 z1 z2 z3 z4 z5 z6 z7 z8 z9 z10 z11; obtain ⟨z0, z1, z2, z3, z4, z5, z6, z7, z8, z9, z10, z11⟩ := op_cells HY.out.2.2.1; obtain ⟨y0, y1⟩ := two_cells HY.out.2.2.2.1; clear hw2 hk2) | (go_at_call 26; refine (does_calls' B { s with rd := rr } o x y O R b HDD.out w0 _ HY.out.1 hl HP.out).mono ?_; rintro e w3 ⟨rfl, hw3, hk3⟩; have HZ := Aside0.mk (HY.out.kb hB.out hw3 hk3); clear z0 z1 z2 z3 z4 z5 z6 z7 z8 z9 z10 z11 y0 y1 hw3 hk3))
  change Code.wp Try.prog _ _ _ ((w3.alloc (.cells (cOp O) 31)).alloc (.cells #[.int .u8 R.c, .int .u8 R.a, .int .u32 R.h, .int .u64 R.p] 44))
  have HU := Aside0.mk (And.intro (HZ.out.below hB.out (below_alloc (below_alloc (Below.refl _ _) (.cells (cOp O) 31)) (.cells #[.int .u8 R.c, .int .u8 R.a, .int .u32 R.h, .int .u64 R.p] 44))) (show Two' w3.heap.size O R ((w3.alloc (.cells (cOp O) 31)).alloc (.cells #[.int .u8 R.c, .int .u8 R.a, .int .u32 R.h, .int .u64 R.p] 44)) from ⟨by rw [heap_alloc_old _ _ (by rw [World.size_alloc]; omega)]; exact heap_alloc_new _ _, by rw [show w3.heap.size + 1 = (w3.alloc (.cells (cOp O) 31)).heap.size by rw [World.size_alloc]]; exact heap_alloc_new _ _⟩))
  have HN : Aside0 (w.heap.size + 1 + 1 + 1 < w3.heap.size) := ⟨(Array.getElem?_eq_some_iff.1 HZ.out.2.2.2.2.2).1⟩
  clear HZ
  generalize ((w3.alloc (.cells (cOp O) 31)).alloc (.cells #[.int .u8 R.c, .int .u8 R.a, .int .u32 R.h, .int .u64 R.p] 44)) = w4 at HU ⊢
  generalize w3.heap.size = g at HU HN ⊢
  refine wp_region_held_drew (S := Two' g O R) (by kernel_rfl) HU.out.2 (fun hHeld => ?_)
  refine take_at (i := 0) (v := vOp O) 39 rfl rfl (by kernel_rfl) (by kernel_rfl) (by kernel_rfl) (fun _ _ _ h => h) (yields_blk (by rfl) 31 (.tmp 10) rfl g _ 31 rfl _ (fun w h => h.1) Try.underlying31 rfl (by kernel_rfl)) hHeld ?_
  try simp only [Act.put, List.setIfInBounds_toArray, List.set_cons_zero, List.set_cons_succ]
  refine take_at (i := 1) (v := vRep R) 40 rfl rfl (by kernel_rfl) (by kernel_rfl) (by kernel_rfl) (fun _ _ _ h => h) (yields_blk (by rfl) 44 (.tmp 11) rfl (g + 1) _ 44 rfl _ (fun w h => h.2) Try.underlying44 rfl (by kernel_rfl)) hHeld ?_
  try simp only [Act.put, List.setIfInBounds_toArray, List.set_cons_zero, List.set_cons_succ]
  refine take_at (i := 2) (v := .bool b) 41 rfl rfl (by kernel_rfl) (by kernel_rfl) (by kernel_rfl) (fun _ _ _ h => h) (Or.inl ⟨by rfl, fun w _ => by rfl⟩) hHeld ?_
  try simp only [Act.put, List.setIfInBounds_toArray, List.set_cons_zero, List.set_cons_succ]
  have HU1 : Aside0 (HD B w0 w (asked { s with rd := rr } o x y) o x y w4.drew ∧ Two' g O R w4.drew) := ⟨HU.out.1.below hB.out (pw_below_drewN (Below.refl _ _) 1), HU.out.2⟩
  generalize w4.drew = w4' at HU1 hHeld ⊢
  refine wpAnyH_ready (rs := [3]) (by kernel_rfl) (by simp) ?_
  refine AllReadyH.cons rfl (fun K hK => ?_) AllReadyH.nil
  rw [if_pos (by rfl)]
  refine store_at rfl 31 (.tmp 6) (.tmp 39) rfl (w.heap.size + 1 + 1) 0 (cOp O) rfl rfl (there_of_block HU1.out.1.2.2.2.2.1 0 12 (by simp)) (by kernel_rfl) (by simp [Value.oneCell']) ?_
  have e2 := stored_op' (x := O) HU1.out.1.1 HU1.out.1.2.1 (by have := hB.out; omega) (by omega) (by omega) HU1.out.1.2.2.2.2.1 HU1.out.1.2.2.2.2.2
  have HQ := Aside0.mk (And.intro e2 (show Two' g O R _ from And.intro ((far_setCells (g := w.heap.size + 1 + 1) (k := g) (by have := HN.out; omega) (cOp O).toList 0 w4').trans HU1.out.2.1) ((far_setCells (g := w.heap.size + 1 + 1) (k := g + 1) (by have := HN.out; omega) (cOp O).toList 0 w4').trans HU1.out.2.2)))
  clear e2 hHeld
  generalize w4'.setCells (w.heap.size + 1 + 1) 0 (cOp O).toList = w5 at HQ ⊢
  refine hK.out _ _ HQ.out.2 (fun hHeld => ?_)
  clear hK K
  try simp only [Act.put, List.setIfInBounds_toArray, List.set_cons_zero, List.set_cons_succ]
  refine wpAnyH_ready (rs := [4]) (by kernel_rfl) (by simp) ?_
  refine AllReadyH.cons rfl (fun K hK => ?_) AllReadyH.nil
  rw [if_pos (by rfl)]
  refine store_at rfl 44 (.tmp 7) (.tmp 40) rfl (w.heap.size + 1 + 1 + 1) 0 #[.int .u8 R.c, .int .u8 R.a, .int .u32 R.h, .int .u64 R.p] rfl rfl (there_of_block HQ.out.1.2.2.2 0 4 (by simp)) (by kernel_rfl) (by simp [Value.oneCell']) ?_
  have e2 := stored_rep' (x := R) HQ.out.1.1 HQ.out.1.2.1 (by have := hB.out; omega) (by omega) (by omega) HQ.out.1.2.2.1 HQ.out.1.2.2.2
  have HR := Aside0.mk (And.intro e2 (show Two' g O R _ from And.intro ((far_setCells (g := w.heap.size + 1 + 1 + 1) (k := g) (by have := HN.out; omega) #[Value.int .u8 R.c, Value.int .u8 R.a, Value.int .u32 R.h, Value.int .u64 R.p].toList 0 w5).trans HQ.out.2.1) ((far_setCells (g := w.heap.size + 1 + 1 + 1) (k := g + 1) (by have := HN.out; omega) #[Value.int .u8 R.c, Value.int .u8 R.a, Value.int .u32 R.h, Value.int .u64 R.p].toList 0 w5).trans HQ.out.2.2)))
  clear e2 hHeld
  generalize w5.setCells (w.heap.size + 1 + 1 + 1) 0 #[Value.int .u8 R.c, Value.int .u8 R.a, Value.int .u32 R.h, Value.int .u64 R.p].toList = w6 at HR ⊢
  refine hK.out _ _ HR.out.2 (fun hHeld => ?_)
  clear hK K
  try simp only [Act.put, List.setIfInBounds_toArray, List.set_cons_zero, List.set_cons_succ]
  refine take_at (i := 5) (v := .bool b) 8 rfl rfl (by kernel_rfl) (by kernel_rfl) (by kernel_rfl) (fun _ _ _ h => h) (Or.inl ⟨by rfl, fun w _ => by rfl⟩) hHeld ?_
  try simp only [Act.put, List.setIfInBounds_toArray, List.set_cons_zero, List.set_cons_succ]
  refine take_at (i := 6) (v := .int .i64 0) 9 rfl rfl (by kernel_rfl) (by kernel_rfl) (by kernel_rfl) (fun _ _ _ h => h) (Or.inl ⟨by rfl, fun w _ => by rfl⟩) hHeld ?_
  try simp only [Act.put, List.setIfInBounds_toArray, List.set_cons_zero, List.set_cons_succ]
  refine wpAnyH_done (by kernel_rfl) ?_ _
  clear hHeld
  go_wp2
  obtain ⟨H5, K5, c1, c2⟩ := HR.out.1
  rw [asked_rd] at H5
  obtain ⟨z0, z1, z2, z3, z4, z5, z6, z7, z8, z9, z10, z11⟩ := op_cells c1
  obtain ⟨y0, y1, y2, y3⟩ := rep_cells (r := R) c2
  (try simp only [Exit.inBlock, Exit.then])
  refine bodyPost_ret (by simp [results, Try.results17, go_sem, z0, z1, z2, z3, z4, z5, z6, z7, z8, z9, z10, z11, y0, y1, y2, y3]; try rfl) rfl ?_
  exact ⟨by first | rfl | simp, ⟨_, H5⟩, K5⟩

theorem Do_calls (B : Nat) (s : WS) (o : SOp) (x y : Int) (w0 w : World) (h : WP B w0 s w) (hl : s.qs.length < 1000) :
    Calls Try.prog 17 #[vW B, vOp o, .agg #[.int .i64 x, .int .i64 y]] w fun e w' => e = .returned (.tuple #[vOp (doR s.t o).1, vRep (doR s.t o).2.1, .bool (doR s.t o).2.2.1, .int .i64 (doR s.t o).2.2.2]) ∧ (∃ r, WP B w0 { (if (doR s.t o).2.2.2 = 0 then asked s o x y else s) with rd := r } w') ∧ KB B w w' := by
  by_cases hp : placeOf o < 0
  · have e : doR s.t o = (SOp.zero, SRep.zero, false, 170) := by unfold doR; rw [if_pos hp]
    rw [e]
    exact Do_over B s o x y w0 w h hl hp
  · cases he : enb s.t.ready o with
    | false =>
      have e : doR s.t o = (SOp.zero, SRep.zero, false, 171) := by unfold doR; rw [if_neg hp, if_neg (by rw [he]; decide)]
      rw [e]
      exact Do_blocked B s o x y w0 w h hl (by omega) he
    | true =>
      have e : doR s.t o = ((doOp s.t o).1, (doOp s.t o).2.1, (doOp s.t o).2.2, 0) := by unfold doR; rw [if_neg hp, if_pos he]
      rw [e]
      exact Do_done B s o x y w0 w h hl (by omega) he _ _ _ rfl
end Go.Proofs.Ytooddkaepkjidaa.QSt
