/- Step: what looks for something and does not find it. -/
import Derived.Test.YtooddkaepkjidaaGSt
namespace Go.Proofs.Ytooddkaepkjidaa.QSt
open Go.RowKit Go.Proofs.YtooddkaepkjidaaW.PrintWords Go.Proofs.YtooddkaepkjidaaW.PrintLast Go.Proofs.YtooddkaepkjidaaW.PrintMore
set_option linter.unusedVariables false
set_option linter.unusedSimpArgs false
attribute [local go_sem] cs_off
set_option hygiene false in
macro "goes_no " r:term : tactic => `(tactic| (
  go_enter Try.func30, Try.ntmps30
  go_wp2_with (first | (go_at_call 47; refine (Claim_calls B s o w0 _ (((H.out.alloc _).alloc _).alloc _) hl).mono ?_; rintro e w1 ⟨rfl, hw1, hk1⟩; have H1 := hw1.alloc (.cells (cOp s.t.op) 31); have K1 := ((((KB.refl B w).alloc _).alloc _).alloc _).trans (hk1.alloc (.cells (cOp s.t.op) 31)); have BX := (boxes_of (x := s.t.op) hB.out hk1).alloc (.cells (cOp s.t.op) 31); have HX := Aside0.mk (And.intro H1 (And.intro K1 BX)); obtain ⟨z0, z1, z2, z3, z4, z5, z6, z7, z8, z9, z10, z11⟩ := op_cells BX.1; dsimp only [cOp] at z0 z1 z2 z3 z4 z5 z6 z7 z8 z9 z10 z11; clear hw1 hk1 H1 K1 BX) | (go_at_call 29; refine (over_calls o ($r : SRep) _).mono ?_; rintro e w3 ⟨rfl, hb3⟩; have HY : Aside0 (WP B w0 { s with qs := s.qs ++ [2], l := o } w3 ∧ KB B w w3 ∧ Boxes w w3 o s.t.op) := ⟨HX.out.1.below hb3, HX.out.2.1.trans (KB.of_below hb3), HX.out.2.2.below hb3⟩; clear hb3) | ((with_reducible refine gate_store (p := 8) (t := 31) rfl ?_); refine store_blk rfl 31 (.tmp 8) (.tmp 47) rfl (w.heap.size + 1) 0 (cOp { o with nx := 7 }) _ 31 rfl rfl HY.out.2.2.2.1 (by simp) (by kernel_rfl) (by simp [Value.oneCell']) ?_; intro w4 e4 hw4; have HY4 : Aside0 (WP B w0 { s with qs := s.qs ++ [2], l := o } w4 ∧ KB B w w4 ∧ w4.heap[w.heap.size + 1]? = some (.cells (cOp { o with nx := 7 }) 31 (0, 0)) ∧ w4.heap[w.heap.size + 1 + 1]? = some (.cells #[.int .u8 SRep.zero.c, .int .u8 SRep.zero.a, .int .u32 SRep.zero.h, .int .u64 SRep.zero.p] 44 (0, 0))) := ⟨by rw [e4]; exact stored_op HY.out.1 HY.out.2.1 (by have := hB.out; omega) (by omega) HY.out.2.2.2.1 HY.out.2.2.2.2⟩; clear e4 hw4) | ((with_reducible refine gate_store (p := 9) (t := 44) rfl ?_); refine store_blk rfl 44 (.tmp 9) (.tmp 48) rfl (w.heap.size + 1 + 1) 0 #[.int .u8 (($r : SRep)).c, .int .u8 ($r : SRep).a, .int .u32 ($r : SRep).h, .int .u64 ($r : SRep).p] _ 44 rfl rfl HY4.out.2.2.2 (by simp) (by kernel_rfl) (by simp [Value.oneCell']) ?_; intro w5 e5 hw5; have HZ : Aside0 (WP B w0 { s with qs := s.qs ++ [2], l := o } w5 ∧ KB B w w5 ∧ w5.heap[w.heap.size + 1]? = some (.cells (cOp { o with nx := 7 }) 31 (0, 0)) ∧ w5.heap[w.heap.size + 1 + 1]? = some (.cells #[.int .u8 (($r : SRep)).c, .int .u8 ($r : SRep).a, .int .u32 ($r : SRep).h, .int .u64 ($r : SRep).p] 44 (0, 0))) := ⟨by rw [e5]; exact stored_rep HY4.out.1 HY4.out.2.1 (by have := hB.out; omega) (by omega) HY4.out.2.2.1 HY4.out.2.2.2⟩; clear e5 hw5))
  obtain ⟨H5, K5, c1, c2⟩ := HZ.out
  clear z0 z1 z2 z3 z4 z5 z6 z7 z8 z9 z10 z11
  obtain ⟨z0, z1, z2, z3, z4, z5, z6, z7, z8, z9, z10, z11⟩ := op_cells c1
  obtain ⟨y0, y1, y2, y3⟩ := rep_cells (r := $r) c2
  (try simp only [Exit.inBlock, Exit.then])
  refine bodyPost_ret (by simp [results, Try.results30, go_sem, z0, z1, z2, z3, z4, z5, z6, z7, z8, z9, z10, z11, y0, y1, y2, y3]; try rfl) rfl ?_
  exact ⟨by first | rfl | (simp [foundOp, foundRep, hc]; done) | (simp [foundOp, foundRep, hc]; omega), H5, K5⟩))

theorem Boxes.below {w w1 w2 : World} {o x : SOp} (h : Boxes w w1 o x) (hb : Below w1.heap.size w1 w2) : Boxes w w2 o x := by
  obtain ⟨h0, h1, h2⟩ := h
  exact ⟨(hb.block _ (Array.getElem?_eq_some_iff.1 h0).1).trans h0, (hb.block _ (Array.getElem?_eq_some_iff.1 h1).1).trans h1, (hb.block _ (Array.getElem?_eq_some_iff.1 h2).1).trans h2⟩

set_option maxRecDepth 100000 in
set_option maxHeartbeats 2000000 in
theorem goesClaim_2 (B : Nat) (s : WS) (o : SOp) (next : Int) (w0 w : World) (h : WP B w0 s w) (hl : s.qs.length < 1000) (hc : s.t.code = 2) :
    Calls Try.prog 30 #[.func (.methodOf 67 "Claim") #[] #[], vW B, vOp o, .int .i64 next] w fun e w' =>
      e = .returned (.tuple #[vOp (foundOp o s.t.op s.t.code next), vRep (foundRep s.t.code), .bool (decide (s.t.code ≠ 1))]) ∧ WP B w0 { s with qs := s.qs ++ [2], l := o } w' ∧ KB B w w' := by
  have H := Aside0.mk h
  have hB : Aside0 (B < w.heap.size) := ⟨h.lt⟩
  clear h
  goes_no ⟨2, 0, 0, 0⟩
set_option maxRecDepth 100000 in
set_option maxHeartbeats 2000000 in
theorem goesClaim_3 (B : Nat) (s : WS) (o : SOp) (next : Int) (w0 w : World) (h : WP B w0 s w) (hl : s.qs.length < 1000) (hc : s.t.code = 3) :
    Calls Try.prog 30 #[.func (.methodOf 67 "Claim") #[] #[], vW B, vOp o, .int .i64 next] w fun e w' =>
      e = .returned (.tuple #[vOp (foundOp o s.t.op s.t.code next), vRep (foundRep s.t.code), .bool (decide (s.t.code ≠ 1))]) ∧ WP B w0 { s with qs := s.qs ++ [2], l := o } w' ∧ KB B w w' := by
  have H := Aside0.mk h
  have hB : Aside0 (B < w.heap.size) := ⟨h.lt⟩
  clear h
  goes_no ⟨3, 0, 0, 0⟩
set_option maxRecDepth 100000 in
set_option maxHeartbeats 2000000 in
theorem goesClaim_4 (B : Nat) (s : WS) (o : SOp) (next : Int) (w0 w : World) (h : WP B w0 s w) (hl : s.qs.length < 1000) (hc : s.t.code = 4) :
    Calls Try.prog 30 #[.func (.methodOf 67 "Claim") #[] #[], vW B, vOp o, .int .i64 next] w fun e w' =>
      e = .returned (.tuple #[vOp (foundOp o s.t.op s.t.code next), vRep (foundRep s.t.code), .bool (decide (s.t.code ≠ 1))]) ∧ WP B w0 { s with qs := s.qs ++ [2], l := o } w' ∧ KB B w w' := by
  have H := Aside0.mk h
  have hB : Aside0 (B < w.heap.size) := ⟨h.lt⟩
  clear h
  goes_no ⟨4, 0, 0, 0⟩
set_option maxRecDepth 100000 in
set_option maxHeartbeats 2000000 in
theorem goesClaim_0 (B : Nat) (s : WS) (o : SOp) (next : Int) (w0 w : World) (h : WP B w0 s w) (hl : s.qs.length < 1000) (hc : s.t.code ≠ 1 ∧ s.t.code ≠ 2 ∧ s.t.code ≠ 3 ∧ s.t.code ≠ 4) :
    Calls Try.prog 30 #[.func (.methodOf 67 "Claim") #[] #[], vW B, vOp o, .int .i64 next] w fun e w' =>
      e = .returned (.tuple #[vOp (foundOp o s.t.op s.t.code next), vRep (foundRep s.t.code), .bool (decide (s.t.code ≠ 1))]) ∧ WP B w0 { s with qs := s.qs ++ [2], l := o } w' ∧ KB B w w' := by
  have H := Aside0.mk h
  have hB : Aside0 (B < w.heap.size) := ⟨h.lt⟩
  clear h
  obtain ⟨n1, n2, n3, n4⟩ := hc
  have hc : ¬ s.t.code = 1 := n1
  have d1 : decide (s.t.code = 1) = false := decide_eq_false n1
  have d2 : decide (s.t.code = 2) = false := decide_eq_false n2
  have d3 : decide (s.t.code = 3) = false := decide_eq_false n3
  have d4 : decide (s.t.code = 4) = false := decide_eq_false n4
  goes_no ⟨2, 0, 0, 0⟩
theorem goesClaim (B : Nat) (s : WS) (o : SOp) (next : Int) (w0 w : World) (h : WP B w0 s w) (hl : s.qs.length < 1000) :
    Calls Try.prog 30 #[.func (.methodOf 67 "Claim") #[] #[], vW B, vOp o, .int .i64 next] w fun e w' =>
      e = .returned (.tuple #[vOp (foundOp o s.t.op s.t.code next), vRep (foundRep s.t.code), .bool (decide (s.t.code ≠ 1))]) ∧ WP B w0 { s with qs := s.qs ++ [2], l := o } w' ∧ KB B w w' := by
  by_cases h1 : s.t.code = 1
  · exact goesClaim_ok B s o next w0 w h hl h1
  by_cases h2 : s.t.code = 2
  · exact goesClaim_2 B s o next w0 w h hl h2
  by_cases h3 : s.t.code = 3
  · exact goesClaim_3 B s o next w0 w h hl h3
  by_cases h4 : s.t.code = 4
  · exact goesClaim_4 B s o next w0 w h hl h4
  exact goesClaim_0 B s o next w0 w h hl ⟨h1, h2, h3, h4⟩
end Go.Proofs.Ytooddkaepkjidaa.QSt
