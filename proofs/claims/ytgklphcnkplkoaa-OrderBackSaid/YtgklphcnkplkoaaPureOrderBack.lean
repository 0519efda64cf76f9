/- OrderBack: stamps of one budget are in the order of their numbers, and are read of them. No condition. -/
import Derived.Test.YtgklphcnkplkoaaOOrderBack
namespace Go.Proofs.Ytgklphcnkplkoaa.Pure
open Go.RowKit Go.Proofs.Ytgklphcnkplkoaa.QOr Go.Proofs.YtgklphcnkplkoaaW.PrintWords Go.Proofs.YtgklphcnkplkoaaW.PrintLast

theorem ob_right (z : Int) : order_right.f z = some (decide (1 ≤ z ∧ z ≤ 16)) := by
  unfold order_right.f
  by_cases c : z ≥ 1
  · rw [if_pos c]; congr 1; simp; omega
  · rw [if_neg c]; congr 1; simp; omega
theorem ob_wrap (x y z : Int) (h1 : 0 ≤ x) (h2 : x ≤ 1048576) (h3 : 0 ≤ y) (h4 : y < z) (h5 : 1 ≤ z) (h6 : z ≤ 16) :
    IntKind.u64.wrap (wrap64 ((wrap64 (x * z)) + y)) = x * z + y ∧ 0 ≤ x * z ∧ x * z ≤ 16777216 := by
  have a1 : 0 ≤ x * z := Int.mul_nonneg h1 (by omega)
  have a2 : x * z ≤ 1048576 * 16 := Int.mul_le_mul h2 h6 (by omega) (by omega)
  refine ⟨?_, a1, by omega⟩
  rw [IntKind.wrap_u64]
  unfold wrap64
  omega
/-- A stamp's number: told by both alike; where it is told, it is what it should be. -/
theorem ob_number (x y z : Int) : ∃ p e, order_Number.f x y z = some (p, e) ∧ (∃ p', rampartref07_Number.f x y z = some (p', e)) ∧ (e = 0 → p = x * z + y ∧ 0 ≤ x ∧ x ≤ 1048576 ∧ 0 ≤ y ∧ y < z ∧ 1 ≤ z ∧ z ≤ 16) := by
  unfold order_Number.f rampartref07_Number.f
  rw [ob_right]
  simp only [Option.bind_some]
  by_cases c1 : z < 1
  · rw [if_pos c1, if_neg (by simp; omega)]; exact ⟨_, _, rfl, ⟨_, rfl⟩, fun h => by omega⟩
  by_cases c2 : z > 16
  · rw [if_neg c1, if_pos c2, if_neg (by simp; omega)]; exact ⟨_, _, rfl, ⟨_, rfl⟩, fun h => by omega⟩
  rw [if_neg c1, if_neg c2, if_pos (by simp; omega)]
  by_cases c3 : x < 0
  · rw [if_pos c3]; exact ⟨_, _, rfl, ⟨_, rfl⟩, fun h => by omega⟩
  by_cases c4 : x > 1048576
  · rw [if_neg c3, if_pos c4]; exact ⟨_, _, rfl, ⟨_, rfl⟩, fun h => by omega⟩
  by_cases c5 : y < 0
  · rw [if_neg c3, if_neg c4, if_pos c5]; exact ⟨_, _, rfl, ⟨_, rfl⟩, fun h => by omega⟩
  by_cases c6 : y ≥ z
  · rw [if_neg c3, if_neg c4, if_neg c5, if_pos c6]; exact ⟨_, _, rfl, ⟨_, rfl⟩, fun h => by omega⟩
  rw [if_neg c3, if_neg c4, if_neg c5, if_neg c6]
  exact ⟨_, _, rfl, ⟨_, rfl⟩, fun _ => ⟨(ob_wrap x y z (by omega) (by omega) (by omega) (by omega) (by omega) (by omega)).1, by omega, by omega, by omega, by omega, by omega, by omega⟩⟩
theorem ob_cases (z : Int) (h1 : 1 ≤ z) (h2 : z ≤ 16) : z = 1 ∨ z = 2 ∨ z = 3 ∨ z = 4 ∨ z = 5 ∨ z = 6 ∨ z = 7 ∨ z = 8 ∨ z = 9 ∨ z = 10 ∨ z = 11 ∨ z = 12 ∨ z = 13 ∨ z = 14 ∨ z = 15 ∨ z = 16 := by omega
theorem ob_stamp (x y z : Int) (h1 : 0 ≤ x) (h2 : x ≤ 1048576) (h3 : 0 ≤ y) (h4 : y < z) (h5 : 1 ≤ z) (h6 : z ≤ 16) : order_Stamp.f (x * z + y) z = some (x, y, 0) := by
  unfold order_Stamp.f
  rw [ob_right]
  have ez : IntKind.u64.wrap z = z := by rw [IntKind.wrap_u64]; omega
  obtain ⟨_, b1, b2⟩ := ob_wrap x y z h1 h2 h3 h4 h5 h6
  have d : Int.tdiv (x * z + y) z = x ∧ Int.tmod (x * z + y) z = y := by
    rw [Int.tdiv_eq_ediv_of_nonneg (by omega), Int.tmod_eq_emod_of_nonneg (by omega)]
    rcases ob_cases z h5 h6 with rfl | rfl | rfl | rfl | rfl | rfl | rfl | rfl | rfl | rfl | rfl | rfl | rfl | rfl | rfl | rfl <;> omega
  have ex : IntKind.u64.wrap x = x := by rw [IntKind.wrap_u64]; omega
  simp only [Option.bind_some, ez, d.1, d.2, ex]
  rw [if_pos (by simp; omega), if_neg (by omega), if_neg (by omega)]
  have w1 : wrap64 x = x := by unfold wrap64; omega
  have w2 : wrap64 y = y := by unfold wrap64; omega
  rw [w1, w2]
theorem ob_less (a b c d z : Int) (h3 : 0 ≤ b) (h4 : b < z) (k3 : 0 ≤ d) (k4 : d < z) (h5 : 1 ≤ z) (h6 : z ≤ 16) :
    ((a * z + b < c * z + d) ↔ (a < c ∨ a = c ∧ b < d)) ∧ ((a * z + b = c * z + d) ↔ (a = c ∧ b = d)) := by
  rcases ob_cases z h5 h6 with rfl | rfl | rfl | rfl | rfl | rfl | rfl | rfl | rfl | rfl | rfl | rfl | rfl | rfl | rfl | rfl <;> omega
theorem ob_compare (a b c d : Int) : ∃ t, order_Compare.f a b c d = some t ∧ (t < 0 ↔ (a < c ∨ a = c ∧ b < d)) := by
  unfold order_Compare.f order_moment_compare.f
  by_cases c1 : (a == c && (b == d)) = true
  · rw [if_pos c1]
    simp only [Bool.and_eq_true, beq_iff_eq] at c1
    exact ⟨_, rfl, by omega⟩
  · rw [if_neg c1]
    simp only [Bool.and_eq_true, beq_iff_eq] at c1
    by_cases c2 : a < c
    · rw [if_pos c2]; exact ⟨_, rfl, by omega⟩
    · rw [if_neg c2]
      by_cases c3 : a = c
      · rw [if_pos c3]
        by_cases c4 : b < d
        · rw [if_pos c4]; exact ⟨_, rfl, by omega⟩
        · rw [if_neg c4]; exact ⟨_, rfl, by omega⟩
      · rw [if_neg c3]; exact ⟨_, rfl, by omega⟩
theorem ob_alive : rampartlaw07_alive.f 19 = some true := by kernel_rfl

theorem OrderBack : OOrderBack.Stmt := by
  intro x0 x1 a2 _ _ _
  refine ⟨20, ?_⟩
  unfold rampartlaw07_OrderBack.f
  obtain ⟨p, e, h1, ⟨p', h2⟩, h3⟩ := ob_number x0.f0 x0.f1 a2
  obtain ⟨q, f, k1, ⟨q', k2⟩, k3⟩ := ob_number x1.f0 x1.f1 a2
  rw [h1, k1]
  simp only [Option.bind_some]
  have bad : (e ≠ 0 ∨ f ≠ 0) → rampartlaw07_OrderBack.j0 20 a2 p q true x0.f0 x0.f1 x1.f0 x1.f1 = some true := by
    intro hb
    rw [show (20 : Nat) = 19 + 1 from rfl]
    simp only [rampartlaw07_OrderBack.j0, if_true, h2, k2, Option.bind_some, ob_alive]
    by_cases c : e = 0
    · rw [if_pos c, if_neg (by omega)]
    · rw [if_neg c]
  by_cases c : e = 0
  · rw [if_pos c]
    by_cases c' : f = 0
    · obtain ⟨rfl, g1, g2, g3, g4, g5, g6⟩ := h3 c
      obtain ⟨rfl, i1, i2, i3, i4, _, _⟩ := k3 c'
      subst c'
      obtain ⟨t, ht, hlt⟩ := ob_compare x0.f0 x0.f1 x1.f0 x1.f1
      have hl := ob_less x0.f0 x0.f1 x1.f0 x1.f1 a2 g3 g4 i3 i4 g5 g6
      rw [show (20 : Nat) = 19 + 1 from rfl, show ((0 : Int) != 0) = false from rfl]
      simp only [rampartlaw07_OrderBack.j0, Bool.false_eq_true, if_false, ob_stamp x0.f0 x0.f1 a2 g1 g2 g3 g4 g5 g6, Option.bind_some, if_true, beq_self_eq_true, Bool.and_self, ht, ob_alive]
      have e1 : (decide (x0.f0 * a2 + x0.f1 < x1.f0 * a2 + x1.f1) == decide (t < 0)) = true := by
        rw [beq_iff_eq, decide_eq_decide, hl.1, hlt]
      have e2 : ((x0.f0 * a2 + x0.f1 == x1.f0 * a2 + x1.f1) == (x0.f0 == x1.f0 && (x0.f1 == x1.f1))) = true := by
        rw [beq_iff_eq, Bool.eq_iff_iff, Bool.and_eq_true, beq_iff_eq, beq_iff_eq, beq_iff_eq]
        exact hl.2
      rw [if_pos e1, if_pos e2]
    · have : (f != 0) = true := by simp [c']
      rw [this]
      exact bad (.inr c')
  · rw [if_neg c]
    exact bad (.inl c)
end Go.Proofs.Ytgklphcnkplkoaa.Pure
