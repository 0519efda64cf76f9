/- Step: a micro-step (does): Claim, Take, Publish, Retire. Written by a program of this repo. -/
import Derived.Test.YtooddkaepkjidaaDSt
namespace Go.Proofs.Ytooddkaepkjidaa.QSt
open Go.RowKit Go.Proofs.YtooddkaepkjidaaW.PrintWords Go.Proofs.YtooddkaepkjidaaW.PrintLast Go.Proofs.YtooddkaepkjidaaW.PrintMore
set_option linter.unusedVariables false
set_option linter.unusedSimpArgs false
attribute [local go_sem] cs_off

set_option maxRecDepth 100000 in
set_option maxHeartbeats 2000000 in
theorem does_Claim (B : Nat) (s : WS) (o : SOp) (x y : Int) (w0 w : World) (h : WP B w0 s w) (hl : s.qs.length < 1000) :
    Calls Try.prog 26 #[vW B, vOp { o with nx := 2 }, .agg #[.int .i64 x, .int .i64 y]] w fun e w' =>
      e = .returned (.tuple #[vOp ((foundOp { o with nx := 2 } s.t.op s.t.code 3)), vRep ((foundRep s.t.code)), .bool (decide (s.t.code ≠ 1))]) ∧ WP B w0 { s with qs := s.qs ++ [2], l := { o with nx := 2 } } w' ∧ KB B w w' := by
  have H := Aside0.mk h
  have hB : Aside0 (B < w.heap.size) := ⟨h.lt⟩
  clear h
  go_enter Try.func26, Try.ntmps26
  go_wp2_with (first | (go_at_call 30; refine (goesClaim B s { o with nx := 2 } 3 w0 _ ((((H.out.alloc _).alloc _).alloc _).alloc _) hl).mono ?_; rintro e w1 ⟨rfl, hw1, hk1⟩; have BX := boxes4_of (o := { o with nx := 2 }) hB.out hk1; have K1 := (((((KB.refl B w).alloc _).alloc _).alloc _).alloc _).trans hk1; have HX := Aside0.mk (And.intro hw1 (And.intro K1 (And.intro BX.2.2.1 BX.2.2.2))); obtain ⟨z0, z1, z2, z3, z4, z5, z6, z7, z8, z9, z10, z11⟩ := op_cells BX.1; obtain ⟨x0, x1⟩ := two_cells BX.2.1; clear hw1 hk1 K1 BX) | ((with_reducible refine gate_store (p := 6) (t := 31) rfl ?_); refine store_blk rfl 31 (.tmp 6) (.tmp 28) rfl (w.heap.size + 1 + 1) 0 (cOp (foundOp { o with nx := 2 } s.t.op s.t.code 3)) _ 31 rfl rfl HX.out.2.2.1 (by simp) (by kernel_rfl) (by simp [Value.oneCell']) ?_; intro w4 e4 hw4; have HZ := Aside0.mk (stored_op' (x := (foundOp { o with nx := 2 } s.t.op s.t.code 3)) HX.out.1 HX.out.2.1 (by have := hB.out; omega) (by omega) (by omega) HX.out.2.2.1 HX.out.2.2.2); rw [← show w4 = _ from e4] at HZ; clear e4 hw4) | ((with_reducible refine gate_store (p := 7) (t := 44) rfl ?_); refine store_blk rfl 44 (.tmp 7) (.tmp 29) rfl (w.heap.size + 1 + 1 + 1) 0 #[.int .u8 ((foundRep s.t.code)).c, .int .u8 ((foundRep s.t.code)).a, .int .u32 ((foundRep s.t.code)).h, .int .u64 ((foundRep s.t.code)).p] _ 44 rfl rfl HZ.out.2.2.2 (by simp) (by kernel_rfl) (by simp [Value.oneCell']) ?_; intro w5 e5 hw5; have HQ := Aside0.mk (stored_rep' (x := (foundRep s.t.code)) HZ.out.1 HZ.out.2.1 (by have := hB.out; omega) (by omega) (by omega) HZ.out.2.2.1 HZ.out.2.2.2); rw [← show w5 = _ from e5] at HQ; clear e5 hw5))
  obtain ⟨H5, K5, c1, c2⟩ := HQ.out
  clear z0 z1 z2 z3 z4 z5 z6 z7 z8 z9 z10 z11
  obtain ⟨z0, z1, z2, z3, z4, z5, z6, z7, z8, z9, z10, z11⟩ := op_cells c1
  obtain ⟨y0, y1, y2, y3⟩ := rep_cells (r := (foundRep s.t.code)) c2
  (try simp only [Exit.inBlock, Exit.then])
  refine bodyPost_ret (by simp [results, Try.results26, go_sem, z0, z1, z2, z3, z4, z5, z6, z7, z8, z9, z10, z11, y0, y1, y2, y3]; try rfl) rfl ?_
  exact ⟨by first | rfl | simp, H5, K5⟩

set_option maxRecDepth 100000 in
set_option maxHeartbeats 2000000 in
theorem does_Take (B : Nat) (s : WS) (o : SOp) (x y : Int) (w0 w : World) (h : WP B w0 s w) (hl : s.qs.length < 1000) :
    Calls Try.prog 26 #[vW B, vOp { o with nx := 5 }, .agg #[.int .i64 x, .int .i64 y]] w fun e w' =>
      e = .returned (.tuple #[vOp ((foundOp { o with nx := 5 } s.t.op s.t.code 6)), vRep ((foundRep s.t.code)), .bool (decide (s.t.code ≠ 1))]) ∧ WP B w0 { s with qs := s.qs ++ [5], l := { o with nx := 5 } } w' ∧ KB B w w' := by
  have H := Aside0.mk h
  have hB : Aside0 (B < w.heap.size) := ⟨h.lt⟩
  clear h
  go_enter Try.func26, Try.ntmps26
  go_wp2_with (first | (go_at_call 30; refine (goesTake B s { o with nx := 5 } 6 w0 _ ((((H.out.alloc _).alloc _).alloc _).alloc _) hl).mono ?_; rintro e w1 ⟨rfl, hw1, hk1⟩; have BX := boxes4_of (o := { o with nx := 5 }) hB.out hk1; have K1 := (((((KB.refl B w).alloc _).alloc _).alloc _).alloc _).trans hk1; have HX := Aside0.mk (And.intro hw1 (And.intro K1 (And.intro BX.2.2.1 BX.2.2.2))); obtain ⟨z0, z1, z2, z3, z4, z5, z6, z7, z8, z9, z10, z11⟩ := op_cells BX.1; obtain ⟨x0, x1⟩ := two_cells BX.2.1; clear hw1 hk1 K1 BX) | ((with_reducible refine gate_store (p := 6) (t := 31) rfl ?_); refine store_blk rfl 31 (.tmp 6) (.tmp 37) rfl (w.heap.size + 1 + 1) 0 (cOp (foundOp { o with nx := 5 } s.t.op s.t.code 6)) _ 31 rfl rfl HX.out.2.2.1 (by simp) (by kernel_rfl) (by simp [Value.oneCell']) ?_; intro w4 e4 hw4; have HZ := Aside0.mk (stored_op' (x := (foundOp { o with nx := 5 } s.t.op s.t.code 6)) HX.out.1 HX.out.2.1 (by have := hB.out; omega) (by omega) (by omega) HX.out.2.2.1 HX.out.2.2.2); rw [← show w4 = _ from e4] at HZ; clear e4 hw4) | ((with_reducible refine gate_store (p := 7) (t := 44) rfl ?_); refine store_blk rfl 44 (.tmp 7) (.tmp 38) rfl (w.heap.size + 1 + 1 + 1) 0 #[.int .u8 ((foundRep s.t.code)).c, .int .u8 ((foundRep s.t.code)).a, .int .u32 ((foundRep s.t.code)).h, .int .u64 ((foundRep s.t.code)).p] _ 44 rfl rfl HZ.out.2.2.2 (by simp) (by kernel_rfl) (by simp [Value.oneCell']) ?_; intro w5 e5 hw5; have HQ := Aside0.mk (stored_rep' (x := (foundRep s.t.code)) HZ.out.1 HZ.out.2.1 (by have := hB.out; omega) (by omega) (by omega) HZ.out.2.2.1 HZ.out.2.2.2); rw [← show w5 = _ from e5] at HQ; clear e5 hw5))
  obtain ⟨H5, K5, c1, c2⟩ := HQ.out
  clear z0 z1 z2 z3 z4 z5 z6 z7 z8 z9 z10 z11
  obtain ⟨z0, z1, z2, z3, z4, z5, z6, z7, z8, z9, z10, z11⟩ := op_cells c1
  obtain ⟨y0, y1, y2, y3⟩ := rep_cells (r := (foundRep s.t.code)) c2
  (try simp only [Exit.inBlock, Exit.then])
  refine bodyPost_ret (by simp [results, Try.results26, go_sem, z0, z1, z2, z3, z4, z5, z6, z7, z8, z9, z10, z11, y0, y1, y2, y3]; try rfl) rfl ?_
  exact ⟨by first | rfl | simp, H5, K5⟩

set_option maxRecDepth 100000 in
set_option maxHeartbeats 2000000 in
theorem does_Publish (B : Nat) (s : WS) (o : SOp) (x y : Int) (w0 w : World) (h : WP B w0 s w) (hl : s.qs.length < 1000) :
    Calls Try.prog 26 #[vW B, vOp { o with nx := 4 }, .agg #[.int .i64 x, .int .i64 y]] w fun e w' =>
      e = .returned (.tuple #[vOp ({ o with nx := 7 }), vRep ((⟨1, 0, 0, 0⟩ : SRep)), .bool true]) ∧ WP B w0 { s with qs := s.qs ++ [4], l := { o with nx := 4 }, a0 := x, a1 := y } w' ∧ KB B w w' := by
  have H := Aside0.mk h
  have hB : Aside0 (B < w.heap.size) := ⟨h.lt⟩
  clear h
  go_enter Try.func26, Try.ntmps26
  go_wp2_with (first | (go_at_call 49; refine (Publish_calls B s { o with nx := 4 } x y w0 _ ((((H.out.alloc _).alloc _).alloc _).alloc _) hl).mono ?_; rintro e w1 ⟨rfl, hw1, hk1⟩; have BX := boxes4_of (o := { o with nx := 4 }) hB.out hk1; have K1 := (((((KB.refl B w).alloc _).alloc _).alloc _).alloc _).trans hk1; have HX := Aside0.mk (And.intro hw1 (And.intro K1 (And.intro BX.2.2.1 BX.2.2.2))); obtain ⟨z0, z1, z2, z3, z4, z5, z6, z7, z8, z9, z10, z11⟩ := op_cells BX.1; obtain ⟨x0, x1⟩ := two_cells BX.2.1; clear hw1 hk1 K1 BX) | (go_at_call 29; refine (over_calls { o with nx := 4 } (⟨1, 0, 0, 0⟩ : SRep) _).mono ?_; rintro e w3 ⟨rfl, hb3⟩; have HY := Aside0.mk (And.intro (HX.out.1.below hb3) (And.intro (HX.out.2.1.trans (KB.of_below hb3)) (And.intro ((hb3.block _ (Array.getElem?_eq_some_iff.1 HX.out.2.2.1).1).trans HX.out.2.2.1) ((hb3.block _ (Array.getElem?_eq_some_iff.1 HX.out.2.2.2).1).trans HX.out.2.2.2)))); clear hb3) | ((with_reducible refine gate_store (p := 6) (t := 31) rfl ?_); refine store_blk rfl 31 (.tmp 6) (.tmp 57) rfl (w.heap.size + 1 + 1) 0 (cOp { o with nx := 7 }) _ 31 rfl rfl HY.out.2.2.1 (by simp) (by kernel_rfl) (by simp [Value.oneCell']) ?_; intro w4 e4 hw4; have HZ := Aside0.mk (stored_op' (x := { o with nx := 7 }) HY.out.1 HY.out.2.1 (by have := hB.out; omega) (by omega) (by omega) HY.out.2.2.1 HY.out.2.2.2); rw [← show w4 = _ from e4] at HZ; clear e4 hw4) | ((with_reducible refine gate_store (p := 7) (t := 44) rfl ?_); refine store_blk rfl 44 (.tmp 7) (.tmp 58) rfl (w.heap.size + 1 + 1 + 1) 0 #[.int .u8 ((⟨1, 0, 0, 0⟩ : SRep)).c, .int .u8 ((⟨1, 0, 0, 0⟩ : SRep)).a, .int .u32 ((⟨1, 0, 0, 0⟩ : SRep)).h, .int .u64 ((⟨1, 0, 0, 0⟩ : SRep)).p] _ 44 rfl rfl HZ.out.2.2.2 (by simp) (by kernel_rfl) (by simp [Value.oneCell']) ?_; intro w5 e5 hw5; have HQ := Aside0.mk (stored_rep' (x := (⟨1, 0, 0, 0⟩ : SRep)) HZ.out.1 HZ.out.2.1 (by have := hB.out; omega) (by omega) (by omega) HZ.out.2.2.1 HZ.out.2.2.2); rw [← show w5 = _ from e5] at HQ; clear e5 hw5))
  obtain ⟨H5, K5, c1, c2⟩ := HQ.out
  clear z0 z1 z2 z3 z4 z5 z6 z7 z8 z9 z10 z11
  obtain ⟨z0, z1, z2, z3, z4, z5, z6, z7, z8, z9, z10, z11⟩ := op_cells c1
  obtain ⟨y0, y1, y2, y3⟩ := rep_cells (r := (⟨1, 0, 0, 0⟩ : SRep)) c2
  (try simp only [Exit.inBlock, Exit.then])
  refine bodyPost_ret (by simp [results, Try.results26, go_sem, z0, z1, z2, z3, z4, z5, z6, z7, z8, z9, z10, z11, y0, y1, y2, y3]; try rfl) rfl ?_
  exact ⟨by first | rfl | simp, H5, K5⟩

set_option maxRecDepth 100000 in
set_option maxHeartbeats 2000000 in
theorem does_Retire (B : Nat) (s : WS) (o : SOp) (x y : Int) (w0 w : World) (h : WP B w0 s w) (hl : s.qs.length < 1000) :
    Calls Try.prog 26 #[vW B, vOp { o with nx := 6 }, .agg #[.int .i64 x, .int .i64 y]] w fun e w' =>
      e = .returned (.tuple #[vOp ({ o with nx := 7 }), vRep ((⟨1, 0, 0, o.pl⟩ : SRep)), .bool true]) ∧ WP B w0 { s with qs := s.qs ++ [6], l := { o with nx := 6 } } w' ∧ KB B w w' := by
  have H := Aside0.mk h
  have hB : Aside0 (B < w.heap.size) := ⟨h.lt⟩
  clear h
  go_enter Try.func26, Try.ntmps26
  go_wp2_with (first | (go_at_call 51; refine (Retire_calls B s { o with nx := 6 } w0 _ ((((H.out.alloc _).alloc _).alloc _).alloc _) hl).mono ?_; rintro e w1 ⟨rfl, hw1, hk1⟩; have BX := boxes4_of (o := { o with nx := 6 }) hB.out hk1; have K1 := (((((KB.refl B w).alloc _).alloc _).alloc _).alloc _).trans hk1; have HX := Aside0.mk (And.intro hw1 (And.intro K1 (And.intro BX.2.2.1 BX.2.2.2))); obtain ⟨z0, z1, z2, z3, z4, z5, z6, z7, z8, z9, z10, z11⟩ := op_cells BX.1; obtain ⟨x0, x1⟩ := two_cells BX.2.1; clear hw1 hk1 K1 BX) | (go_at_call 29; refine (over_calls { o with nx := 6 } (⟨1, 0, 0, o.pl⟩ : SRep) _).mono ?_; rintro e w3 ⟨rfl, hb3⟩; have HY := Aside0.mk (And.intro (HX.out.1.below hb3) (And.intro (HX.out.2.1.trans (KB.of_below hb3)) (And.intro ((hb3.block _ (Array.getElem?_eq_some_iff.1 HX.out.2.2.1).1).trans HX.out.2.2.1) ((hb3.block _ (Array.getElem?_eq_some_iff.1 HX.out.2.2.2).1).trans HX.out.2.2.2)))); clear hb3) | ((with_reducible refine gate_store (p := 6) (t := 31) rfl ?_); refine store_blk rfl 31 (.tmp 6) (.tmp 68) rfl (w.heap.size + 1 + 1) 0 (cOp { o with nx := 7 }) _ 31 rfl rfl HY.out.2.2.1 (by simp) (by kernel_rfl) (by simp [Value.oneCell']) ?_; intro w4 e4 hw4; have HZ := Aside0.mk (stored_op' (x := { o with nx := 7 }) HY.out.1 HY.out.2.1 (by have := hB.out; omega) (by omega) (by omega) HY.out.2.2.1 HY.out.2.2.2); rw [← show w4 = _ from e4] at HZ; clear e4 hw4) | ((with_reducible refine gate_store (p := 7) (t := 44) rfl ?_); refine store_blk rfl 44 (.tmp 7) (.tmp 69) rfl (w.heap.size + 1 + 1 + 1) 0 #[.int .u8 ((⟨1, 0, 0, o.pl⟩ : SRep)).c, .int .u8 ((⟨1, 0, 0, o.pl⟩ : SRep)).a, .int .u32 ((⟨1, 0, 0, o.pl⟩ : SRep)).h, .int .u64 ((⟨1, 0, 0, o.pl⟩ : SRep)).p] _ 44 rfl rfl HZ.out.2.2.2 (by simp) (by kernel_rfl) (by simp [Value.oneCell']) ?_; intro w5 e5 hw5; have HQ := Aside0.mk (stored_rep' (x := (⟨1, 0, 0, o.pl⟩ : SRep)) HZ.out.1 HZ.out.2.1 (by have := hB.out; omega) (by omega) (by omega) HZ.out.2.2.1 HZ.out.2.2.2); rw [← show w5 = _ from e5] at HQ; clear e5 hw5))
  obtain ⟨H5, K5, c1, c2⟩ := HQ.out
  clear z0 z1 z2 z3 z4 z5 z6 z7 z8 z9 z10 z11
  obtain ⟨z0, z1, z2, z3, z4, z5, z6, z7, z8, z9, z10, z11⟩ := op_cells c1
  obtain ⟨y0, y1, y2, y3⟩ := rep_cells (r := (⟨1, 0, 0, o.pl⟩ : SRep)) c2
  (try simp only [Exit.inBlock, Exit.then])
  refine bodyPost_ret (by simp [results, Try.results26, go_sem, z0, z1, z2, z3, z4, z5, z6, z7, z8, z9, z10, z11, y0, y1, y2, y3]; try rfl) rfl ?_
  exact ⟨by first | rfl | simp, H5, K5⟩

end Go.Proofs.Ytooddkaepkjidaa.QSt
