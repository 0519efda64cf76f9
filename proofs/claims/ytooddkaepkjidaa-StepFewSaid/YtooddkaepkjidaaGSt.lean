/- Step: what a micro-step makes, walked by hand. -/
import Derived.Test.YtooddkaepkjidaaM2St
namespace Go.Proofs.Ytooddkaepkjidaa.QSt
open Go.RowKit Go.Proofs.YtooddkaepkjidaaW.PrintWords Go.Proofs.YtooddkaepkjidaaW.PrintLast Go.Proofs.YtooddkaepkjidaaW.PrintMore
set_option linter.unusedVariables false
set_option linter.unusedSimpArgs false
attribute [local go_sem] cs_off

def SRep.zero : SRep := ⟨0, 0, 0, 0⟩
def foundOp (o x : SOp) (code next : Int) : SOp := if code = 1 then { o with ch := x.ch, ln := x.ln, sq := x.sq, ep := x.ep, pl := x.pl, nx := next } else { o with nx := 7 }
def foundRep (code : Int) : SRep := if code = 1 then SRep.zero else ⟨if code = 2 ∨ code = 3 ∨ code = 4 then code else 2, 0, 0, 0⟩
abbrev vW (B : Nat) : Value := .iface 49 (.pointer (some ⟨B, 0, none⟩))

/-- Behind the call that found something: the three boxes of 'goes'. -/
def Boxes (w w2 : World) (o x : SOp) : Prop :=
  w2.heap[w.heap.size]? = some (.cells (cOp o) 31 (0, 0)) ∧ w2.heap[w.heap.size + 1]? = some (.cells (cOp SOp.zero) 31 (0, 0)) ∧
  w2.heap[w.heap.size + 1 + 1]? = some (.cells #[.int .u8 SRep.zero.c, .int .u8 SRep.zero.a, .int .u32 SRep.zero.h, .int .u64 SRep.zero.p] 44 (0, 0))
theorem boxes_of {B : Nat} {w w1 : World} {o x : SOp} (hB : B < w.heap.size) (h : KB B (((w.alloc (.cells (cOp o) 31)).alloc (.cells (cOp SOp.zero) 31)).alloc (.cells #[.int .u8 SRep.zero.c, .int .u8 SRep.zero.a, .int .u32 SRep.zero.h, .int .u64 SRep.zero.p] 44)) w1) : Boxes w w1 o x := by
  refine ⟨h _ _ _ (by omega) (by decide) ?_, h _ _ _ (by omega) (by decide) ?_, h _ _ _ (by omega) (by decide) ?_⟩
  · rw [heap_alloc_old _ _ (by rw [World.size_alloc, World.size_alloc]; omega), heap_alloc_old _ _ (by rw [World.size_alloc]; omega)]; exact heap_alloc_new _ _
  · rw [heap_alloc_old _ _ (by rw [World.size_alloc, World.size_alloc]; omega), show w.heap.size + 1 = (w.alloc (.cells (cOp o) 31)).heap.size from (World.size_alloc ..).symm]; exact heap_alloc_new _ _
  · rw [show w.heap.size + 1 + 1 = ((w.alloc (.cells (cOp o) 31)).alloc (.cells (cOp SOp.zero) 31)).heap.size by rw [World.size_alloc, World.size_alloc]]; exact heap_alloc_new _ _
theorem Boxes.alloc {w w1 : World} {o x : SOp} (h : Boxes w w1 o x) (ob : Obj) : Boxes w (w1.alloc ob) o x := by
  obtain ⟨h0, h1, h2⟩ := h
  exact ⟨(heap_alloc_old _ _ (Array.getElem?_eq_some_iff.1 h0).1).trans h0, (heap_alloc_old _ _ (Array.getElem?_eq_some_iff.1 h1).1).trans h1, (heap_alloc_old _ _ (Array.getElem?_eq_some_iff.1 h2).1).trans h2⟩

abbrev newOp (o x : SOp) (next : Int) : SOp := { o with ch := x.ch, ln := x.ln, sq := x.sq, ep := x.ep, pl := x.pl, nx := next }
theorem found_world {B g0 : Nat} {w0 w w2 : World} {s : WS} {o x : SOp} {next : Int} {C1 C2 : Obj} (H2 : WP B w0 s w2) (K2 : KB B w w2) (hB : B < g0) (hg : w.heap.size ≤ g0) (b0 : w2.heap[g0]? = some (.cells (cOp o) 31 (0, 0))) (b1 : w2.heap[g0 + 1]? = some C1) (b2 : w2.heap[g0 + 1 + 1]? = some C2)
    (W : World) (hW : W = ((w2.setCells g0 7 [.int .i64 x.ch, .int .i64 x.ln, .int .u64 x.sq, .int .u64 x.ep, .int .u64 x.pl]).setCells g0 6 [.int .i64 next]).drew) :
    WP B w0 s W ∧ KB B w W ∧ W.heap[g0]? = some (.cells (cOp (newOp o x next)) 31 (0, 0)) ∧ W.heap[g0 + 1]? = some C1 ∧ W.heap[g0 + 1 + 1]? = some C2 := by
  have step : ∀ (Y : World) (C D1 D2 : Array Value) (o : Nat) (vs : List Value) (t1 t2 : Obj), WP B w0 s Y → KB B w Y → Y.heap[g0]? = some (.cells C 31 (0, 0)) → Y.heap[g0 + 1]? = some t1 → Y.heap[g0 + 1 + 1]? = some t2 →
      WP B w0 s (Y.setCells g0 o vs) ∧ KB B w (Y.setCells g0 o vs) ∧ (Y.setCells g0 o vs).heap[g0]? = some (.cells (setAll C o vs) 31 (0, 0)) ∧ (Y.setCells g0 o vs).heap[g0 + 1]? = some t1 ∧ (Y.setCells g0 o vs).heap[g0 + 1 + 1]? = some t2 :=
    fun Y C _ _ o vs t1 t2 h1 h2 h3 h4 h5 => ⟨h1.other h3 (by decide) hB o vs, h2.other hg o vs, blk_setCells vs o C Y h3, (far_setCells (by omega) vs o Y).trans h4, (far_setCells (by omega) vs o Y).trans h5⟩
  obtain ⟨p1, p2, p3, p4, p5⟩ := step w2 _ #[] #[] 7 [.int .i64 x.ch, .int .i64 x.ln, .int .u64 x.sq, .int .u64 x.ep, .int .u64 x.pl] _ _ H2 K2 b0 b1 b2
  generalize w2.setCells g0 7 [.int .i64 x.ch, .int .i64 x.ln, .int .u64 x.sq, .int .u64 x.ep, .int .u64 x.pl] = Y1 at p1 p2 p3 p4 p5 hW
  obtain ⟨q1, q2, q3, q4, q5⟩ := step Y1 _ #[] #[] 6 [.int .i64 next] _ _ p1 p2 p3 p4 p5
  generalize Y1.setCells g0 6 [.int .i64 next] = Y2 at q1 q2 q3 q4 q5 hW
  have e0 : setAll (setAll (cOp o) 7 [.int .i64 x.ch, .int .i64 x.ln, .int .u64 x.sq, .int .u64 x.ep, .int .u64 x.pl]) 6 [.int .i64 next] = cOp (newOp o x next) := by
    simp only [cOp, setAll, List.setIfInBounds_toArray, List.set_cons_succ, List.set_cons_zero]
  rw [e0] at q3
  subst hW
  exact ⟨q1.drewN 1, q2.trans (KB.of_below (pw_below_drewN (Below.refl _ _) 1)), q3, q4, q5⟩

theorem setOp (c : Array Value) (x : SOp) (h : c.size = 12) : setAll c 0 (cOp x).toList = cOp x := by
  obtain ⟨l⟩ := c
  have hl : l.length = 12 := by simpa using h
  match l, hl with
  | [_, _, _, _, _, _, _, _, _, _, _, _], _ => simp only [cOp, setAll, List.setIfInBounds_toArray, List.set_cons_succ, List.set_cons_zero]
theorem stored_op {B g : Nat} {w0 w Y : World} {s : WS} {x : SOp} {C : Array Value} {D : Obj} (h1 : WP B w0 s Y) (h2 : KB B w Y) (hB : B < g + 1) (hg : w.heap.size ≤ g + 1) (h3 : Y.heap[g + 1]? = some (.cells C 31 (0, 0))) (h4 : Y.heap[g + 1 + 1]? = some D) (hC : C.size = 12 := by rfl) :
    WP B w0 s (Y.setCells (g + 1) 0 (cOp x).toList) ∧ KB B w (Y.setCells (g + 1) 0 (cOp x).toList) ∧ (Y.setCells (g + 1) 0 (cOp x).toList).heap[g + 1]? = some (.cells (cOp x) 31 (0, 0)) ∧ (Y.setCells (g + 1) 0 (cOp x).toList).heap[g + 1 + 1]? = some D := by
  refine ⟨h1.other h3 (by decide) hB 0 _, h2.other hg 0 _, ?_, (far_setCells (by omega) _ 0 Y).trans h4⟩
  rw [blk_setCells (cOp x).toList 0 C Y h3, setOp C x hC]
theorem setRep (c : Array Value) (x : SRep) (h : c.size = 4) : setAll c 0 #[Value.int .u8 x.c, Value.int .u8 x.a, Value.int .u32 x.h, Value.int .u64 x.p].toList = #[Value.int .u8 x.c, Value.int .u8 x.a, Value.int .u32 x.h, Value.int .u64 x.p] := by
  obtain ⟨l⟩ := c
  have hl : l.length = 4 := by simpa using h
  match l, hl with
  | [_, _, _, _], _ => simp only [setAll, List.setIfInBounds_toArray, List.set_cons_succ, List.set_cons_zero]
theorem stored_rep {B g : Nat} {w0 w Y : World} {s : WS} {x : SRep} {C : Array Value} {D : Obj} (h1 : WP B w0 s Y) (h2 : KB B w Y) (hB : B < g + 1 + 1) (hg : w.heap.size ≤ g + 1 + 1) (h3 : Y.heap[g + 1]? = some D) (h4 : Y.heap[g + 1 + 1]? = some (.cells C 44 (0, 0))) (hC : C.size = 4 := by rfl) :
    WP B w0 s (Y.setCells (g + 1 + 1) 0 #[Value.int .u8 x.c, Value.int .u8 x.a, Value.int .u32 x.h, Value.int .u64 x.p].toList) ∧ KB B w (Y.setCells (g + 1 + 1) 0 #[Value.int .u8 x.c, Value.int .u8 x.a, Value.int .u32 x.h, Value.int .u64 x.p].toList) ∧ (Y.setCells (g + 1 + 1) 0 #[Value.int .u8 x.c, Value.int .u8 x.a, Value.int .u32 x.h, Value.int .u64 x.p].toList).heap[g + 1]? = some D ∧ (Y.setCells (g + 1 + 1) 0 #[Value.int .u8 x.c, Value.int .u8 x.a, Value.int .u32 x.h, Value.int .u64 x.p].toList).heap[g + 1 + 1]? = some (.cells #[.int .u8 x.c, .int .u8 x.a, .int .u32 x.h, .int .u64 x.p] 44 (0, 0)) := by
  refine ⟨h1.other h4 (by decide) hB 0 _, h2.other hg 0 _, (far_setCells (by omega) _ 0 Y).trans h3, ?_⟩
  rw [blk_setCells _ 0 C Y h4, setRep C x hC]

set_option maxRecDepth 100000 in
set_option maxHeartbeats 2000000 in
theorem goesClaim_ok (B : Nat) (s : WS) (o : SOp) (next : Int) (w0 w : World) (h : WP B w0 s w) (hl : s.qs.length < 1000) (hc : s.t.code = 1) :
    Calls Try.prog 30 #[.func (.methodOf 67 "Claim") #[] #[], vW B, vOp o, .int .i64 next] w fun e w' =>
      e = .returned (.tuple #[vOp (foundOp o s.t.op s.t.code next), vRep (foundRep s.t.code), .bool (decide (s.t.code ≠ 1))]) ∧ WP B w0 { s with qs := s.qs ++ [2], l := o } w' ∧ KB B w w' := by
  have H := Aside0.mk h
  have hB : Aside0 (B < w.heap.size) := ⟨h.lt⟩
  clear h
  have hd : decide (s.t.code = 1) = true := decide_eq_true hc
  go_enter Try.func30, Try.ntmps30
  go_wp2_with (go_at_call 47; refine (Claim_calls B s o w0 _ (((H.out.alloc _).alloc _).alloc _) hl).mono ?_; rintro e w1 ⟨rfl, hw1, hk1⟩; have H1 := Aside0.mk hw1; have K1 : Aside0 (KB B w w1) := ⟨((((KB.refl B w).alloc _).alloc _).alloc _).trans hk1⟩; have BX : Aside0 (Boxes w w1 o s.t.op) := ⟨boxes_of hB.out hk1⟩; clear hw1 hk1)
  change Code.wp Try.prog _ _ _ (w1.alloc (.cells (cOp s.t.op) 31))
  have H2 := H1.out.alloc (.cells (cOp s.t.op) 31)
  have K2 := K1.out.alloc (.cells (cOp s.t.op) 31)
  obtain ⟨b0, b1, b2⟩ := BX.out.alloc (.cells (cOp s.t.op) 31)
  have b3 := heap_alloc_new w1 (.cells (cOp s.t.op) 31)
  have n1 : w.heap.size + 1 + 1 < w1.heap.size := (Array.getElem?_eq_some_iff.1 BX.out.2.2).1
  have hB' := hB.out
  generalize w1.alloc (.cells (cOp s.t.op) 31) = w2 at H2 K2 b0 b1 b2 b3 ⊢
  generalize w1.heap.size = g3 at n1 b3 ⊢
  obtain ⟨g0, hg0⟩ : ∃ g, w.heap.size = g := ⟨_, rfl⟩
  have G0 := Aside0.mk hg0
  rw [hg0] at b0 b1 b2 n1 hB' ⊢
  clear hg0
  have N := Aside0.mk n1
  have hfar : ∀ (W : World) (i j : Nat) (v : Value), (W.setCell ⟨g0, i, none⟩ v).cell? ⟨g3, j, none⟩ = W.cell? ⟨g3, j, none⟩ := fun W i j v => cs_far W g0 i g3 j v (by omega)
  obtain ⟨z0, z1, z2, z3, z4, z5, z6, z7, z8, z9, z10, z11⟩ := op_cells b0
  have zf := op_frozen b0
  obtain ⟨t0, t1, t2, t3, t4, t5, t6, t7, t8, t9, t10, t11⟩ := op_cells b3
  have HH := Aside0.mk (And.intro H2 (And.intro K2 (And.intro b0 (And.intro b1 b2))))
  clear H1 K1 BX H2 K2 n1 b0 b1 b2 b3
  go_region
  obtain ⟨H2, K2, b0, b1, b2⟩ := HH.out
  obtain ⟨w3, hw3⟩ : ∃ w3, ((w2.setCells g0 7 [.int .i64 s.t.op.ch, .int .i64 s.t.op.ln, .int .u64 s.t.op.sq, .int .u64 s.t.op.ep, .int .u64 s.t.op.pl]).setCells g0 6 [.int .i64 next]).drew = w3 := ⟨_, rfl⟩
  change Exit.then _ _ Exit.normal _ ((w2.setCells g0 7 [.int .i64 s.t.op.ch, .int .i64 s.t.op.ln, .int .u64 s.t.op.sq, .int .u64 s.t.op.ep, .int .u64 s.t.op.pl]).setCells g0 6 [.int .i64 next]).drew
  rw [hw3]
  obtain ⟨H4, K4, c0, c1, c2⟩ := found_world H2 K2 hB' (by have := G0.out; omega) b0 b1 b2 w3 hw3.symm
  clear hw3 z0 z1 z2 z3 z4 z5 z6 z7 z8 z9 z10 z11 zf t0 t1 t2 t3 t4 t5 t6 t7 t8 t9 t10 t11 hfar HH b0 b1 b2 H2 K2
  obtain ⟨z0, z1, z2, z3, z4, z5, z6, z7, z8, z9, z10, z11⟩ := op_cells c0
  have HX := Aside0.mk (And.intro H4 (And.intro K4 (And.intro c1 c2)))
  clear H4 K4 c0 c1 c2
  go_wp2_with (first | ((with_reducible refine gate_store (p := 8) (t := 31) rfl ?_); refine store_blk rfl 31 (.tmp 8) (.tmp 37) rfl (g0 + 1) 0 (cOp (newOp o s.t.op next)) _ 31 rfl rfl HX.out.2.2.1 (by simp) (by kernel_rfl) (by simp [Value.oneCell']) ?_; intro w4 e4 hw4; have HY : Aside0 (WP B w0 { s with qs := s.qs ++ [2], l := o } w4 ∧ KB B w w4 ∧ w4.heap[g0 + 1]? = some (.cells (cOp (newOp o s.t.op next)) 31 (0, 0)) ∧ w4.heap[g0 + 1 + 1]? = some (.cells #[.int .u8 SRep.zero.c, .int .u8 SRep.zero.a, .int .u32 SRep.zero.h, .int .u64 SRep.zero.p] 44 (0, 0))) := ⟨by rw [e4]; exact stored_op HX.out.1 HX.out.2.1 (by omega) (by have := G0.out; omega) HX.out.2.2.1 HX.out.2.2.2⟩; clear e4 hw4) | ((with_reducible refine gate_store (p := 9) (t := 44) rfl ?_); refine store_blk rfl 44 (.tmp 9) (.tmp 38) rfl (g0 + 1 + 1) 0 #[.int .u8 SRep.zero.c, .int .u8 SRep.zero.a, .int .u32 SRep.zero.h, .int .u64 SRep.zero.p] _ 44 rfl rfl HY.out.2.2.2 (by simp) (by kernel_rfl) (by simp [Value.oneCell']) ?_; intro w5 e5 hw5; have HZ : Aside0 (WP B w0 { s with qs := s.qs ++ [2], l := o } w5 ∧ KB B w w5 ∧ w5.heap[g0 + 1]? = some (.cells (cOp (newOp o s.t.op next)) 31 (0, 0)) ∧ w5.heap[g0 + 1 + 1]? = some (.cells #[.int .u8 SRep.zero.c, .int .u8 SRep.zero.a, .int .u32 SRep.zero.h, .int .u64 SRep.zero.p] 44 (0, 0))) := ⟨by rw [e5]; exact stored_rep HY.out.1 HY.out.2.1 (by omega) (by have := G0.out; omega) HY.out.2.2.1 HY.out.2.2.2⟩; clear e5 hw5))
  obtain ⟨H5, K5, c1, c2⟩ := HZ.out
  clear z0 z1 z2 z3 z4 z5 z6 z7 z8 z9 z10 z11
  obtain ⟨z0, z1, z2, z3, z4, z5, z6, z7, z8, z9, z10, z11⟩ := op_cells c1
  obtain ⟨y0, y1, y2, y3⟩ := rep_cells c2
  (try simp only [Exit.inBlock, Exit.then])
  refine bodyPost_ret (by simp [results, Try.results30, go_sem, z0, z1, z2, z3, z4, z5, z6, z7, z8, z9, z10, z11, y0, y1, y2, y3]; try rfl) rfl ?_
  exact ⟨by first | rfl | simp [foundOp, foundRep], H5, K5⟩

end Go.Proofs.Ytooddkaepkjidaa.QSt
