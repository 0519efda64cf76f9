/- OrderTotal: a number stands ahead of the next one, adding the same to both changes no distance, and numbers not too far apart are in a total order. No condition. -/
import Derived.Test.YtgklphcnkplkoaaPOrderTotalx1
namespace Go.Proofs.Ytgklphcnkplkoaa.Pure
open Go.RowKit Go.Proofs.Ytgklphcnkplkoaa.POrderTotal Go.Proofs.YtgklphcnkplkoaaW.PrintWords Go.Proofs.YtgklphcnkplkoaaW.PrintLast

theorem ot_u64 {a : Int} (h : (Lit.int .u64 a).wf = true) : 0 ≤ a ∧ a ≤ 18446744073709551615 := by
  have hmin : IntKind.u64.min = 0 := rfl
  have hmax : IntKind.u64.max = 18446744073709551615 := rfl
  simp only [Lit.wf, Bool.and_eq_true, decide_eq_true_eq] at h
  omega
theorem ot_before (a b d : Int) (h : wrap64 (IntKind.u64.wrap (b - a)) = d) : order_Before.f a b = some (decide (d > 0)) := by
  unfold order_Before.f order_Ahead.f; rw [h]; rfl
theorem ot_ahead (a b d : Int) (h : wrap64 (IntKind.u64.wrap (b - a)) = d) : order_Ahead.f a b = some d := by
  unfold order_Ahead.f; rw [h]
theorem ot_alive : rampartlaw07_alive.f 18 = some true := by kernel_rfl

theorem OrderTotal : rampartlaw07_OrderTotal.Pure := by
  intro a0 a1 a2 a3 h0 h1 h2 h3
  have b0 := ot_u64 h0
  have b1 := ot_u64 h1
  have b2 := ot_u64 h2
  have b3 := ot_u64 h3
  refine ⟨20, ?_⟩
  unfold rampartlaw07_OrderTotal.f
  have hp : 0 ≤ Int.tmod a1 4611686018427387904 ∧ Int.tmod a1 4611686018427387904 < 4611686018427387904 := by rw [Int.tmod_eq_emod_of_nonneg b1.1]; omega
  have hq : 0 ≤ Int.tmod a2 4611686018427387904 ∧ Int.tmod a2 4611686018427387904 < 4611686018427387904 := by rw [Int.tmod_eq_emod_of_nonneg b2.1]; omega
  generalize Int.tmod a1 4611686018427387904 = p at *
  generalize Int.tmod a2 4611686018427387904 = q at *
  have e1 : wrap64 (IntKind.u64.wrap (IntKind.u64.wrap (a0 + 1) - a0)) = 1 := by unfold wrap64; rw [IntKind.wrap_u64, IntKind.wrap_u64]; omega
  have e2 : wrap64 (IntKind.u64.wrap (a0 - IntKind.u64.wrap (a0 + 1))) = -1 := by unfold wrap64; rw [IntKind.wrap_u64, IntKind.wrap_u64]; omega
  have e3 : wrap64 (IntKind.u64.wrap (IntKind.u64.wrap (IntKind.u64.wrap (a0 + p) + a3) - IntKind.u64.wrap (a0 + a3))) = p := by unfold wrap64; rw [IntKind.wrap_u64, IntKind.wrap_u64, IntKind.wrap_u64, IntKind.wrap_u64]; omega
  have e4 : wrap64 (IntKind.u64.wrap (IntKind.u64.wrap (a0 + p) - a0)) = p := by unfold wrap64; rw [IntKind.wrap_u64, IntKind.wrap_u64]; omega
  have e5 : wrap64 (IntKind.u64.wrap (IntKind.u64.wrap (a0 + q) - IntKind.u64.wrap (a0 + p))) = q - p := by unfold wrap64; rw [IntKind.wrap_u64, IntKind.wrap_u64, IntKind.wrap_u64]; omega
  have e6 : wrap64 (IntKind.u64.wrap (IntKind.u64.wrap (a0 + q) - a0)) = q := by unfold wrap64; rw [IntKind.wrap_u64, IntKind.wrap_u64]; omega
  have e7 : wrap64 (IntKind.u64.wrap (a0 - IntKind.u64.wrap (a0 + p))) = -p := by unfold wrap64; rw [IntKind.wrap_u64, IntKind.wrap_u64]; omega
  have e8 : wrap64 (IntKind.u64.wrap (IntKind.u64.wrap (a0 + p) - IntKind.u64.wrap (a0 + q))) = p - q := by unfold wrap64; rw [IntKind.wrap_u64, IntKind.wrap_u64, IntKind.wrap_u64]; omega
  have x1 : (a0 = IntKind.u64.wrap (a0 + p)) ↔ p = 0 := by rw [IntKind.wrap_u64]; omega
  have x2 : (IntKind.u64.wrap (a0 + p) = IntKind.u64.wrap (a0 + q)) ↔ p = q := by rw [IntKind.wrap_u64, IntKind.wrap_u64]; omega
  rw [ot_before _ _ _ e1, ot_before _ _ _ e2, ot_ahead _ _ _ e3, ot_ahead _ _ _ e4]
  simp only [Option.bind_some, gt_iff_lt, Int.zero_lt_one, decide_true, if_true, show decide ((0:Int) < -1) = false from rfl, Bool.false_eq_true, if_false, bne_self_eq_false]
  rw [show (20 : Nat) = 19 + 1 from rfl]
  simp only [rampartlaw07_OrderTotal.j0, Bool.false_eq_true, if_false]
  rw [ot_before _ _ _ e4, ot_before _ _ _ e5, ot_before _ _ _ e6, ot_before _ _ _ e7]
  simp only [Option.bind_some]
  rw [ot_before _ _ _ e8]
  simp only [Option.bind_some]
  generalize IntKind.u64.wrap (a0 + p) = b at *
  generalize IntKind.u64.wrap (a0 + q) = c at *
  have n1 : ¬ (-p > 0) := by omega
  have hj : ∀ t1 t2 t3 : Bool, t1 = decide (p > 0) → t2 = decide (q - p > 0) → t3 = decide (q > 0) → rampartlaw07_OrderTotal.j1 19 b c t1 t2 t3 false = some true := by
    intro t1 t2 t3 r1 r2 r3
    rw [show (19 : Nat) = 18 + 1 from rfl]
    simp only [rampartlaw07_OrderTotal.j1, Bool.false_eq_true, if_false]
    rw [ot_before _ _ _ e8, ot_alive]
    simp only [Option.bind_some]
    subst r1 r2 r3
    by_cases c1 : p > 0 <;> by_cases c2 : q - p > 0 <;> by_cases c3 : q > 0 <;> by_cases c4 : p - q > 0 <;> simp only [c1, c2, c3, c4, decide_true, decide_false, if_true, if_false, Bool.false_eq_true] <;> first | omega | (rw [if_pos (x2.2 (by omega))])
  have hb : (decide (p > 0) == (a0 == b)) = false := by
    by_cases c1 : p > 0
    · have : ¬ a0 = b := fun h => by have := x1.1 h; omega
      simp [c1, this]
    · have : a0 = b := x1.2 (by omega)
      simp [c1, this]
  rw [hb]
  simp only [Bool.false_eq_true, if_false, n1, decide_false]
  by_cases c2 : q - p > 0
  · have c4 : ¬ (p - q > 0) := by omega
    simp only [c2, c4, decide_true, decide_false, if_true]
    exact hj _ _ _ rfl (decide_eq_true c2).symm rfl
  · simp only [c2, decide_false, Bool.false_eq_true, if_false]
    exact hj _ _ _ rfl (decide_eq_false c2).symm rfl

end Go.Proofs.Ytgklphcnkplkoaa.Pure
