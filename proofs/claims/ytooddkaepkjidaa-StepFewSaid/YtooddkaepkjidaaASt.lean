/- Step: the example (alive), walked by hand; equality of structs. -/
import Derived.Test.YtooddkaepkjidaaRSt
namespace Go.Proofs.Ytooddkaepkjidaa.QSt
open Go.RowKit Go.Proofs.YtooddkaepkjidaaW.PrintWords Go.Proofs.YtooddkaepkjidaaW.PrintLast Go.Proofs.YtooddkaepkjidaaW.PrintMore
set_option linter.unusedVariables false
set_option linter.unusedSimpArgs false
attribute [local go_sem] cs_off

theorem eqA48 (d : Nat) (w : World) (x0 y0 x1 y1 : Int) : (Op.equalIn (d + 2) 48 (.agg #[.int .i64 x0, .int .i64 x1]) (.agg #[.int .i64 y0, .int .i64 y1])).run Try.prog w = .ok (x0 == y0 && (x1 == y1)) w := by
  refine eqA_of Try.underlying48 (by kernel_rfl) ?_
  refine eqf_cons (by rfl) (by go_simp; rfl) (by go_simp; rfl) (by go_simp) ?_
  exact eqf_last (by rfl) (by go_simp; rfl) (by go_simp; rfl) (by go_simp)
theorem eqA44 (d : Nat) (w : World) (x0 y0 x1 y1 x2 y2 x3 y3 : Int) : (Op.equalIn (d + 2) 44 (.agg #[.int .u8 x0, .int .u8 x1, .int .u32 x2, .int .u64 x3]) (.agg #[.int .u8 y0, .int .u8 y1, .int .u32 y2, .int .u64 y3])).run Try.prog w = .ok (x0 == y0 && (x1 == y1 && (x2 == y2 && (x3 == y3)))) w := by
  refine eqA_of Try.underlying44 (by kernel_rfl) ?_
  refine eqf_cons (by rfl) (by go_simp; rfl) (by go_simp; rfl) (by go_simp) ?_
  refine eqf_cons (by rfl) (by go_simp; rfl) (by go_simp; rfl) (by go_simp) ?_
  refine eqf_cons (by rfl) (by go_simp; rfl) (by go_simp; rfl) (by go_simp) ?_
  exact eqf_last (by rfl) (by go_simp; rfl) (by go_simp; rfl) (by go_simp)
theorem eqA29 (d : Nat) (w : World) (x0 y0 x1 y1 : Int) : (Op.equalIn (d + 2) 29 (.agg #[.int .u64 x0, .int .u64 x1]) (.agg #[.int .u64 y0, .int .u64 y1])).run Try.prog w = .ok (x0 == y0 && (x1 == y1)) w := by
  refine eqA_of Try.underlying29 (by kernel_rfl) ?_
  refine eqf_cons (by rfl) (by go_simp; rfl) (by go_simp; rfl) (by go_simp) ?_
  exact eqf_last (by rfl) (by go_simp; rfl) (by go_simp; rfl) (by go_simp)
attribute [local go_sem high] eqA26 eqA29
theorem eqA31 (d : Nat) (w : World) (x0 y0 x1 y1 x2 y2 x3 y3 x4 y4 x5 y5 x6 y6 x7 y7 x8 y8 x9 y9 x10 y10 x11 y11 : Int) : (Op.equalIn (d + 4) 31 (vOp ⟨x0, x1, x2, x3, x4, x5, x6, x7, x8, x9, x10, x11⟩) (vOp ⟨y0, y1, y2, y3, y4, y5, y6, y7, y8, y9, y10, y11⟩)).run Try.prog w = .ok (x0 == y0 && ((x1 == y1 && (x2 == y2 && (x3 == y3 && (x4 == y4 && (x5 == y5))))) && (x6 == y6 && (x7 == y7 && (x8 == y8 && ((x9 == y9 && (x10 == y10)) && (x11 == y11))))))) w := by
  refine eqA_of Try.underlying31 (by kernel_rfl) ?_
  refine eqf_cons (by rfl) (by go_simp; rfl) (by go_simp; rfl) (by go_simp) ?_
  refine eqf_cons (by rfl) (by go_simp; rfl) (by go_simp; rfl) (by go_simp) ?_
  refine eqf_cons (by rfl) (by go_simp; rfl) (by go_simp; rfl) (by go_simp) ?_
  refine eqf_cons (by rfl) (by go_simp; rfl) (by go_simp; rfl) (by go_simp) ?_
  refine eqf_cons (by rfl) (by go_simp; rfl) (by go_simp; rfl) (by go_simp) ?_
  refine eqf_cons (by rfl) (by go_simp; rfl) (by go_simp; rfl) (by go_simp) ?_
  exact eqf_last (by rfl) (by go_simp; rfl) (by go_simp; rfl) (by go_simp)
theorem eqR31 (d : Nat) (w : World) (x : SOp) : (Op.equalIn (d + 4) 31 (vOp x) (vOp x)).run Try.prog w = .ok true w := by
  obtain ⟨n, k, a, r, h, p, nx, ch, ln, sq, ep, pp⟩ := x
  rw [eqA31]; simp
theorem eqR44 (d : Nat) (w : World) (x : SRep) : (Op.equalIn (d + 2) 44 (vRep x) (vRep x)).run Try.prog w = .ok true w := by rw [eqA44]; simp
theorem new_send (w : World) : Calls Try.prog 8 #[.int .i64 1, .agg #[.int .u8 3, .int .u8 0, .int .u8 0, .int .u32 0, .int .u64 9]] w fun e w' => e = .returned (.tuple #[vOp ⟨1, 3, 0, 0, 0, 9, 2, 0, 0, 0, 0, 0⟩, .int .i64 0]) ∧ Below w.heap.size w w' :=
  New_calls 1 3 0 0 0 9 w
def sA : WS := ⟨⟨SRep.zero, SOp.zero, 1, true⟩, [], SOp.zero, 0, 0, 0⟩
theorem fin_send : finR 4 0 3 sA ⟨1, 3, 0, 0, 0, 9, 2, 0, 0, 0, 0, 0⟩ = ((⟨1, 3, 0, 0, 0, 9, 7, 0, 0, 0, 0, 0⟩, ⟨1, 0, 0, 0⟩, true, 0), { sA with qs := [2, 3, 4], l := ⟨1, 3, 0, 0, 0, 9, 4, 0, 0, 0, 0, 0⟩, a0 := 4, a1 := 0 }) := rfl

/-- A world that nobody asked yet. -/
def wNew (t : STold) : WS := ⟨t, [], SOp.zero, 0, 0, 0⟩
theorem WP.new (w : World) (t : STold) : WP w.heap.size w (wNew t) (w.alloc (.cells (wCells t (.slice none 0 0) SOp.zero 0 0 0) 51)) :=
  ⟨below_alloc (Below.refl _ _) _, _, heap_alloc_new w _, World.ownsRow_nil _ _ _ _⟩
theorem WP.asked3 {B : Nat} {w0 w : World} {s : WS} {a b c : Int} (h : WP B w0 s w) (hq : s.qs = [a, b, c]) : ∃ g cap, w.cell? ⟨B, 18, none⟩ = some (.slice (some ⟨g, 0, none⟩) 3 cap) ∧ w.cell? ⟨g, 2, none⟩ = some (.int .i64 c) ∧ w.cell? ⟨B, 31, none⟩ = some (.int .i64 s.a0) := by
  obtain ⟨hb, v, hw, hrow⟩ := h
  rw [hq] at hrow
  obtain ⟨g, cap, rfl⟩ := ownsRow_succ (k := 2) (by simpa using hrow)
  obtain ⟨A, c', hv, hc', hrd⟩ := own_reads_of_le (enc := Value.int .i64) (d := (0 : Int)) hrow
  injection hv with hA _ _
  subst hA
  have hC : Kd.C (Kd.int .i64) w (some ⟨g, 0, none⟩) 3 [a, b, c] := Kd.C_of_reads (h1 := fun _ => rfl) hrd
  obtain ⟨ad, he, hx⟩ := Kd.at_int hC 2 (by omega) (by simp)
  injection he with he
  subst he
  refine ⟨g, cap, by simp [World.cell?, hw, wCells], ?_, by simp [World.cell?, hw, wCells]⟩
  simpa [Addr.add, rd] using hx
theorem rep_kb {B : Nat} {w w' : World} (h : KB B w w') {g : Nat} {C : Array Value} {t : TypeId} (hne : g ≠ B) (ht : t ≠ 27) (hg : w.heap[g]? = some (.cells C t (0, 0))) : w'.heap[g]? = some (.cells C t (0, 0)) := h _ _ _ hne ht hg

attribute [local go_sem high] eqA31 eqA44
set_option maxRecDepth 100000 in
set_option maxHeartbeats 2000000 in
theorem alive_calls (w : World) : Calls Try.prog 14 #[] w fun e w' => e = .returned (.bool true) ∧ Below w.heap.size w w' := by
  go_enter Try.func14, Try.ntmps14
  go_upto_region 3 with (first | (go_at_call 22; refine (rampartlaw17_send.calls 3 0 0 0 9 _ rfl).mono ?_; rintro e w1 ⟨rfl, hb1⟩; have H1 := Aside0.mk hb1; clear hb1) | (go_at_call 8; refine (new_send _).mono ?_; rintro e w2 ⟨rfl, hb2⟩; have H2 := Aside0.mk hb2; clear hb2))
  have hN : Aside0 (w2.heap.size + 1 = (w2.alloc (.cells (cOp ⟨1, 3, 0, 0, 0, 9, 2, 0, 0, 0, 0, 0⟩) 31)).heap.size) := ⟨by rw [World.size_alloc]⟩
  have HX : Aside0 (Below w.heap.size w (w2.alloc (.cells (cOp ⟨1, 3, 0, 0, 0, 9, 2, 0, 0, 0, 0, 0⟩) 31)) ∧ (w2.alloc (.cells (cOp ⟨1, 3, 0, 0, 0, 9, 2, 0, 0, 0, 0, 0⟩) 31)).heap[w2.heap.size]? = some (.cells (cOp ⟨1, 3, 0, 0, 0, 9, 2, 0, 0, 0, 0, 0⟩) 31 (0, 0))) := ⟨below_alloc (below_step H1.out H2.out) _, heap_alloc_new _ _⟩
  change Code.wp Try.prog _ _ _ ((w2.alloc (.cells (cOp ⟨1, 3, 0, 0, 0, 9, 2, 0, 0, 0, 0, 0⟩) 31)).alloc (.cells (wCells ⟨SRep.zero, SOp.zero, 1, true⟩ (.slice none 0 0) SOp.zero 0 0 0) 51))
  rw [hN.out]
  have hlt : Aside0 (w2.heap.size < (w2.alloc (.cells (cOp ⟨1, 3, 0, 0, 0, 9, 2, 0, 0, 0, 0, 0⟩) 31)).heap.size) := ⟨by rw [World.size_alloc]; omega⟩
  generalize w2.alloc (.cells (cOp ⟨1, 3, 0, 0, 0, 9, 2, 0, 0, 0, 0, 0⟩) 31) = wa at HX hlt ⊢
  clear hN H2 H1
  generalize w2.heap.size = g at HX hlt ⊢
  have HW := WP.new wa ⟨SRep.zero, SOp.zero, 1, true⟩
  have hz := op_cells ((heap_alloc_old wa (.cells (wCells ⟨SRep.zero, SOp.zero, 1, true⟩ (.slice none 0 0) SOp.zero 0 0 0) 51) hlt.out).trans HX.out.2)
  generalize hwb : wa.alloc (.cells (wCells ⟨SRep.zero, SOp.zero, 1, true⟩ (.slice none 0 0) SOp.zero 0 0 0) 51) = wb at HW hz ⊢
  obtain ⟨z0, z1, z2, z3, z4, z5, z6, z7, z8, z9, z10, z11⟩ := hz
  have HW := Aside0.mk HW
  clear hwb
  go_upto_region 4 with (first | (go_at_call 19; refine (Finish_calls wa.heap.size sA ⟨1, 3, 0, 0, 0, 9, 2, 0, 0, 0, 0, 0⟩ 4 0 wa wb HW.out (by decide) _ _ _ _ _ fin_send).mono ?_; rintro e w4 ⟨rfl, ⟨rr, hw4⟩, hk4, _⟩; have H4 := Aside0.mk hw4; clear hw4 hk4 z0 z1 z2 z3 z4 z5 z6 z7 z8 z9 z10 z11))
  change Code.wp Try.prog _ _ _ ((w4.alloc (.cells (cOp ⟨1, 3, 0, 0, 0, 9, 7, 0, 0, 0, 0, 0⟩) 31)).alloc (.cells (cRep ⟨1, 0, 0, 0⟩) 44))
  have H5 := Aside0.mk ((H4.out.alloc (.cells (cOp ⟨1, 3, 0, 0, 0, 9, 7, 0, 0, 0, 0, 0⟩) 31)).alloc (.cells (cRep ⟨1, 0, 0, 0⟩) 44))
  have h2 : S2 w4.heap.size ⟨1, 3, 0, 0, 0, 9, 7, 0, 0, 0, 0, 0⟩ ⟨1, 0, 0, 0⟩ ((w4.alloc (.cells (cOp ⟨1, 3, 0, 0, 0, 9, 7, 0, 0, 0, 0, 0⟩) 31)).alloc (.cells (cRep ⟨1, 0, 0, 0⟩) 44)) := ⟨by rw [heap_alloc_old _ _ (by rw [World.size_alloc]; omega)]; exact heap_alloc_new _ _, by rw [show w4.heap.size + 1 = (w4.alloc (.cells (cOp ⟨1, 3, 0, 0, 0, 9, 7, 0, 0, 0, 0, 0⟩) 31)).heap.size by rw [World.size_alloc]]; exact heap_alloc_new _ _⟩
  generalize ((w4.alloc (.cells (cOp ⟨1, 3, 0, 0, 0, 9, 7, 0, 0, 0, 0, 0⟩) 31)).alloc (.cells (cRep ⟨1, 0, 0, 0⟩) 44)) = w5 at H5 h2 ⊢
  generalize w4.heap.size = g4 at h2 ⊢
  obtain ⟨z0, z1, z2, z3, z4, z5, z6, z7, z8, z9, z10, z11⟩ := op_cells h2.1
  obtain ⟨y0, y1, y2, y3⟩ := rep_cells (r := ⟨1, 0, 0, 0⟩) h2.2
  obtain ⟨ga, cap, q0, q1, q2⟩ := H5.out.asked3 rfl
  dsimp only at q2
  clear h2
  go_wp2
  go_ret
  exact ⟨rfl, below_step HX.out.1 H5.out.1⟩
end Go.Proofs.Ytooddkaepkjidaa.QSt
