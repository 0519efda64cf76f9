/- Step: Enabled, walked by hand. -/
import Derived.Test.YtooddkaepkjidaaESt
namespace Go.Proofs.Ytooddkaepkjidaa.QSt
open Go.RowKit Go.Proofs.YtooddkaepkjidaaW.PrintWords Go.Proofs.YtooddkaepkjidaaW.PrintLast Go.Proofs.YtooddkaepkjidaaW.PrintMore
set_option linter.unusedVariables false
set_option linter.unusedSimpArgs false

set_option hygiene false in
macro "en_tail " nx:term :  tactic => `(tactic| (
  go_enter Try.func15, Try.ntmps15
  go_wp2_with (first | (go_at_call 12; refine (step_Left.calls 10 n k a r hh p $nx ch ln sq ep pp (leftOf ⟨n, k, a, r, hh, p, $nx, ch, ln, sq, ep, pp⟩) _ (left_ok ⟨n, k, a, r, hh, p, $nx, ch, ln, sq, ep, pp⟩)).mono ?_; rintro e w1 ⟨rfl, hb1⟩; have HX := Aside0.mk (And.intro ((H.out.alloc (.cells (cOp ⟨n, k, a, r, hh, p, $nx, ch, ln, sq, ep, pp⟩) 31)).below hb1) (And.intro (((KB.refl B w).alloc (.cells (cOp ⟨n, k, a, r, hh, p, $nx, ch, ln, sq, ep, pp⟩) 31)).trans (KB.of_below hb1)) ((hb1.block _ (by rw [World.size_alloc]; omega)).trans (heap_alloc_new w (.cells (cOp ⟨n, k, a, r, hh, p, $nx, ch, ln, sq, ep, pp⟩) 31))))); obtain ⟨z0, z1, z2, z3, z4, z5, z6, z7, z8, z9, z10, z11⟩ := op_cells HX.out.2.2; clear hb1) | (go_at_call 50; refine (Ready_calls B s ⟨n, k, a, r, hh, p, nx, ch, ln, sq, ep, pp⟩ w0 _ HX.out.1).mono ?_; rintro e w2 ⟨rfl, hw2, hk2⟩; have HY := Aside0.mk (And.intro hw2 (HX.out.2.1.trans hk2)); clear hw2 hk2))))

set_option maxRecDepth 100000 in
set_option maxHeartbeats 1000000 in
theorem Enabled_calls (B : Nat) (s : WS) (o : SOp) (w0 w : World) (h : WP B w0 s w) :
    Calls Try.prog 15 #[vW B, vOp o] w fun e w' => e = .returned (.bool (enb s.t.ready o)) ∧ (∃ r, WP B w0 { s with rd := r } w') ∧ KB B w w' := by
  have H := Aside0.mk h
  clear h
  obtain ⟨n, k, a, r, hh, p, nx, ch, ln, sq, ep, pp⟩ := o
  by_cases hp : 0 < leftOf ⟨n, k, a, r, hh, p, nx, ch, ln, sq, ep, pp⟩
  · have hpl : Aside0 (0 ≤ placeOf ⟨n, k, a, r, hh, p, nx, ch, ln, sq, ep, pp⟩) := ⟨(left_pos _).1 hp⟩
    have hd : decide (leftOf ⟨n, k, a, r, hh, p, nx, ch, ln, sq, ep, pp⟩ > 0) = true := decide_eq_true hp
    by_cases h4 : nx = 4
    · subst h4
      en_tail 4
      refine (Ready_calls B s ⟨n, k, a, r, hh, p, 4, ch, ln, sq, ep, pp⟩ w0 _ HX.out.1).mono ?_
      rintro e w2 ⟨rfl, hw2, hk2⟩
      have HY := Aside0.mk (And.intro hw2 (HX.out.2.1.trans hk2))
      clear hw2 hk2
      go_wp2
      go_ret
      exact ⟨by simp [enb, hpl.out], ⟨_, HY.out.1⟩, HY.out.2⟩
    · have hq : (nx == 4) = false := beq_false_of_ne h4
      en_tail nx
      go_ret
      exact ⟨by simp [enb, hpl.out, h4], ⟨s.rd, HX.out.1⟩, HX.out.2.1⟩
  · have hplc : Aside0 (¬ 0 ≤ placeOf ⟨n, k, a, r, hh, p, nx, ch, ln, sq, ep, pp⟩) := ⟨fun h => hp ((left_pos _).2 h)⟩
    have hd : decide (leftOf ⟨n, k, a, r, hh, p, nx, ch, ln, sq, ep, pp⟩ > 0) = false := decide_eq_false hp
    en_tail nx
    go_ret
    exact ⟨by rw [enb, decide_eq_false (Int.not_le.2 hplc.out)]; rfl, ⟨s.rd, HX.out.1⟩, HX.out.2.1⟩
end Go.Proofs.Ytooddkaepkjidaa.QSt
