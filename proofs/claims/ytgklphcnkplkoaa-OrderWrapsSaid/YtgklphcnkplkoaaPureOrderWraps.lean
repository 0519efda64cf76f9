/- OrderWraps: how far apart any two numbers are, which stands ahead, and whether one stands within. No condition. -/
import Derived.Test.YtgklphcnkplkoaaPOrderWrapsx1
namespace Go.Proofs.Ytgklphcnkplkoaa.Pure
open Go.RowKit Go.Proofs.Ytgklphcnkplkoaa.POrderWraps Go.Proofs.YtgklphcnkplkoaaW.PrintWords Go.Proofs.YtgklphcnkplkoaaW.PrintLast

theorem ow_ahead (a b : Int) : rampartref07_Ahead.f a b = order_Ahead.f a b := by
  unfold rampartref07_Ahead.f order_Ahead.f
  have hx : 0 ≤ IntKind.u64.wrap (b - a) ∧ IntKind.u64.wrap (b - a) < 18446744073709551616 := by rw [IntKind.wrap_u64]; omega
  generalize IntKind.u64.wrap (b - a) = x at *
  split
  · rename_i h
    congr 1
    have e : IntKind.u64.wrap (18446744073709551615 - x) = 18446744073709551615 - x := by rw [IntKind.wrap_u64]; omega
    rw [e]; unfold wrap64; omega
  · rfl
theorem ow_alive : rampartlaw07_alive.f 18 = some true := by kernel_rfl
theorem ow_some (a b : Int) : ∃ d, order_Ahead.f a b = some d := ⟨_, rfl⟩

theorem OrderWraps : rampartlaw07_OrderWraps.Pure := by
  intro a0 a1 a2 h0 h1 h2
  refine ⟨18, ?_⟩
  unfold rampartlaw07_OrderWraps.f
  simp only [order_Before.f, rampartref07_Before.f, ow_ahead]
  obtain ⟨d, hd⟩ := ow_some a0 a1
  rw [hd]
  simp only [order_Within.f, rampartref07_Within.f, Option.bind_some, if_true, beq_self_eq_true, ow_alive]

end Go.Proofs.Ytgklphcnkplkoaa.Pure
