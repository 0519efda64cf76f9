/- OrderNumbers: stamps as numbers, and back. No condition. -/
import Derived.Test.YtgklphcnkplkoaaOOrderNumbers
namespace Go.Proofs.Ytgklphcnkplkoaa.Pure
open Go.RowKit Go.Proofs.Ytgklphcnkplkoaa.QOr Go.Proofs.YtgklphcnkplkoaaW.PrintWords Go.Proofs.YtgklphcnkplkoaaW.PrintLast

theorem on_right (z : Int) : order_right.f z = some (decide (1 ≤ z ∧ z ≤ 16)) := by
  unfold order_right.f
  by_cases c : z ≥ 1
  · rw [if_pos c]; congr 1; simp; omega
  · rw [if_neg c]; congr 1; simp; omega
theorem on_number (x y z : Int) : ∃ p e, order_Number.f x y z = some (p, e) ∧ rampartref07_Number.f x y z = some (p, e) := by
  unfold order_Number.f rampartref07_Number.f
  rw [on_right]
  simp only [Option.bind_some]
  by_cases c1 : z < 1
  · rw [if_pos c1, if_neg (by simp; omega)]; exact ⟨_, _, rfl, rfl⟩
  · by_cases c2 : z > 16
    · rw [if_neg c1, if_pos c2, if_neg (by simp; omega)]; exact ⟨_, _, rfl, rfl⟩
    · rw [if_neg c1, if_neg c2, if_pos (by simp; omega)]
      repeat' (split; exact ⟨_, _, rfl, rfl⟩)
      exact ⟨_, _, rfl, rfl⟩
theorem on_stamp (x z : Int) : ∃ p q e, order_Stamp.f x z = some (p, q, e) ∧ rampartref07_Stamp.f x z = some (p, q, e) := by
  unfold order_Stamp.f rampartref07_Stamp.f
  rw [on_right]
  simp only [Option.bind_some]
  by_cases c1 : z < 1
  · rw [if_pos c1, if_neg (by simp; omega)]; exact ⟨_, _, _, rfl, rfl⟩
  · by_cases c2 : z > 16
    · rw [if_neg c1, if_pos c2, if_neg (by simp; omega)]; exact ⟨_, _, _, rfl, rfl⟩
    · have hz : ¬ IntKind.u64.wrap z = 0 := by rw [IntKind.wrap_u64]; omega
      rw [if_neg c1, if_neg c2, if_pos (by simp; omega), if_neg hz]
      split
      · exact ⟨_, _, _, rfl, rfl⟩
      · exact ⟨_, _, _, rfl, rfl⟩
theorem on_alive : rampartlaw07_alive.f 20 = some true := by kernel_rfl

theorem OrderNumbers : OOrderNumbers.Stmt := by
  intro x0 a1 a2 _ _ _
  refine ⟨20, ?_⟩
  unfold rampartlaw07_OrderNumbers.f
  obtain ⟨p, e, h1, h2⟩ := on_number x0.f0 x0.f1 a2
  obtain ⟨p', q', e', h3, h4⟩ := on_stamp a1 a2
  rw [h1, h2, h3, h4, on_alive]
  simp only [Option.bind_some, if_true, beq_self_eq_true, Bool.and_self]
end Go.Proofs.Ytgklphcnkplkoaa.Pure
