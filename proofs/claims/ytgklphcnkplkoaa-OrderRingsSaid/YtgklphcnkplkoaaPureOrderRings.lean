/- OrderRings: the sizes of rings, and any number's place. No condition. -/
import Derived.Test.YtgklphcnkplkoaaPOrderRingsx1
import Derived.Test.YtgklphcnkplkoaaLPow
namespace Go.Proofs.Ytgklphcnkplkoaa.Pure
open Go.RowKit Go.Proofs.Ytgklphcnkplkoaa.POrderRings Go.Proofs.YtgklphcnkplkoaaW.PrintWords Go.Proofs.YtgklphcnkplkoaaW.PrintLast
open Go.Proofs.Ytgklphcnkplkoaa.LPow

theorem or_u64 {a : Int} (h : (Lit.int .u64 a).wf = true) : 0 ≤ a ∧ a < 18446744073709551616 := by
  have hmin : IntKind.u64.min = 0 := rfl
  have hmax : IntKind.u64.max = 18446744073709551615 := rfl
  simp only [Lit.wf, Bool.and_eq_true, decide_eq_true_eq] at h
  omega
theorem or_l (k : Nat) : ∀ x y : Int, rampartref07_Size.l0 k x y = order_Size.l0 k x y := by
  induction k with
  | zero => intro x y; rfl
  | succ k ih => intro x y; simp only [rampartref07_Size.l0, order_Size.l0, ih]
theorem or_j (k : Nat) (x : Int) (b : Bool) : rampartref07_Size.j0 k x b = order_Size.j0 k x b := by
  cases k with
  | zero => rfl
  | succ k => simp only [rampartref07_Size.j0, order_Size.j0, or_l]
theorem or_f (k : Nat) (x : Int) : rampartref07_Size.f k x = order_Size.f k x := by
  simp only [rampartref07_Size.f, order_Size.f, or_j]
/-- The least power of two that is not below x, from y on. -/
theorem or_size (x : Int) (hx : x ≤ 65536) (d : Nat) : ∀ (k : Nat) (y : Int), y = 65536 / 2 ^ d → d ≤ 16 → d < k →
    ∃ r, order_Size.l0 k x y = some (r, 0) ∧ IsPow r ∧ x ≤ r ∧ (IsPow x → y ≤ x → r = x) := by
  have py : ∀ d : Nat, d ≤ 16 → IsPow (65536 / 2 ^ d) := by
    intro d hd
    have : d = 0 ∨ d = 1 ∨ d = 2 ∨ d = 3 ∨ d = 4 ∨ d = 5 ∨ d = 6 ∨ d = 7 ∨ d = 8 ∨ d = 9 ∨ d = 10 ∨ d = 11 ∨ d = 12 ∨ d = 13 ∨ d = 14 ∨ d = 15 ∨ d = 16 := by omega
    unfold IsPow
    rcases this with rfl | rfl | rfl | rfl | rfl | rfl | rfl | rfl | rfl | rfl | rfl | rfl | rfl | rfl | rfl | rfl | rfl <;> decide
  have pd : ∀ d : Nat, d + 1 ≤ 16 → wrap64 (65536 / 2 ^ (d + 1) * 2) = 65536 / 2 ^ d := by
    intro d hd
    have : d = 0 ∨ d = 1 ∨ d = 2 ∨ d = 3 ∨ d = 4 ∨ d = 5 ∨ d = 6 ∨ d = 7 ∨ d = 8 ∨ d = 9 ∨ d = 10 ∨ d = 11 ∨ d = 12 ∨ d = 13 ∨ d = 14 ∨ d = 15 := by omega
    rcases this with rfl | rfl | rfl | rfl | rfl | rfl | rfl | rfl | rfl | rfl | rfl | rfl | rfl | rfl | rfl | rfl <;> (unfold wrap64; omega)
  have nx : ∀ (d : Nat), d + 1 ≤ 16 → IsPow x → (65536 / 2 ^ (d + 1) : Int) < x → (65536 / 2 ^ d : Int) ≤ x := by
    intro d hd hp hlt
    have e := pd d hd
    have q := py (d + 1) hd
    have e' : (65536 / 2 ^ d : Int) = 65536 / 2 ^ (d + 1) * 2 := by rw [← e]; unfold wrap64; unfold IsPow at q; omega
    rw [e']
    unfold IsPow at hp q
    omega
  induction d with
  | zero =>
    intro k y hy hd hk
    obtain ⟨k, rfl⟩ : ∃ m, k = m + 1 := ⟨k - 1, by omega⟩
    have hy' : y = 65536 := by rw [hy]; rfl
    refine ⟨y, ?_, by rw [hy]; exact py 0 (by omega), by omega, fun _ h => by omega⟩
    simp only [order_Size.l0]
    rw [if_neg (by omega)]
  | succ d ih =>
    intro k y hy hd hk
    obtain ⟨k, rfl⟩ : ∃ m, k = m + 1 := ⟨k - 1, by omega⟩
    by_cases hlt : y < x
    · obtain ⟨r, hr, h1, h2, h3⟩ := ih k (wrap64 (y * 2)) (by rw [hy]; exact pd d hd) (by omega) (by omega)
      refine ⟨r, ?_, h1, h2, fun hp _ => h3 hp ?_⟩
      · simp only [order_Size.l0]; rw [if_pos hlt]; exact hr
      · rw [hy, pd d hd]; exact nx d hd hp (by rw [← hy]; exact hlt)
    · refine ⟨y, ?_, by rw [hy]; exact py _ hd, by omega, fun _ h => by omega⟩
      simp only [order_Size.l0]
      rw [if_neg hlt]
theorem or_ring (n : Int) : ∃ b, order_ring.f n = some b ∧ rampartref07_Ring.f 40 n = some b ∧ (b = true → IsPow n) := by
  unfold rampartref07_Ring.f order_ring.f
  rw [or_f]
  unfold order_Size.f
  by_cases h1 : n < 1
  · refine ⟨false, by rw [if_neg (by omega)], ?_, fun h => by cases h⟩
    rw [if_pos h1]
    rfl
  · by_cases h2 : n ≤ 65536
    · obtain ⟨r, hr, hp, hle, hx⟩ := or_size n h2 16 38 1 (by rfl) (by omega) (by omega)
      rw [if_neg h1, show decide (n > 65536) = false from decide_eq_false (by omega)]
      have e : order_Size.j0 40 n false = some (r, 0) := by
        rw [show (40 : Nat) = 39 + 1 from rfl]
        simp only [order_Size.j0, Bool.false_eq_true, if_false]
        exact at_rounds (g := fun k => order_Size.l0 k n 1) (fun k => (order_Size.mono_l k).2 _ _) (by omega) hr
      rw [e, if_pos (by omega), if_pos h2]
      have hb := ring_bits n (by omega) h2
      refine ⟨_, rfl, ?_, fun h => hb.1 h⟩
      simp only [Option.bind_some, if_true]
      congr 1
      by_cases hn : IsPow n
      · rw [hb.2 hn, hx hn (by omega)]; simp
      · have : ¬ (bits .and .i64 n (wrap64 (n - 1)) == 0) = true := fun h => hn (hb.1 h)
        rw [Bool.eq_false_iff.2 this]
        have : r ≠ n := fun h => hn (h ▸ hp)
        simp [this]
    · refine ⟨false, by rw [if_pos (by omega), if_neg h2], ?_, fun h => by cases h⟩
      rw [if_neg h1, show decide (n > 65536) = true from decide_eq_true (by omega)]
      rfl
theorem or_place (x n : Int) (hx : (Lit.int .u64 x).wf = true) : ∃ p e, order_Place.f x n = some (p, e) ∧ rampartref07_Place.f 40 x n = some (p, e) := by
  obtain ⟨b, h1, h2, hp⟩ := or_ring n
  have bx := or_u64 hx
  unfold order_Place.f rampartref07_Place.f
  rw [h1, h2]
  simp only [Option.bind_some]
  cases b with
  | false => exact ⟨_, _, rfl, rfl⟩
  | true =>
    have hn := hp rfl
    have hn' := hn
    unfold IsPow at hn'
    have en : IntKind.u64.wrap n = n := by rw [IntKind.wrap_u64]; omega
    simp only [if_true]
    rw [if_neg (by omega), place_bits x n bx.1 bx.2 hn, en, Int.tmod_eq_emod_of_nonneg bx.1]
    exact ⟨_, _, rfl, rfl⟩
theorem or_alive : rampartlaw07_alive.f 40 = some true := by kernel_rfl
theorem or_size_some (n : Int) : ∃ r, order_Size.f 40 n = some r := by
  obtain ⟨b, h1, h2, _⟩ := or_ring n
  unfold rampartref07_Ring.f at h2
  rw [or_f] at h2
  cases h : order_Size.f 40 n with
  | none => rw [h] at h2; cases h2
  | some r => exact ⟨r, rfl⟩

theorem OrderRings : rampartlaw07_OrderRings.Pure := by
  intro a0 a1 a2 h0 h1 h2
  refine ⟨40, ?_⟩
  unfold rampartlaw07_OrderRings.f
  rw [or_f]
  obtain ⟨r, hr⟩ := or_size_some a0
  obtain ⟨p, e, hp, hq⟩ := or_place a1 a2 h1
  rw [hr, hp, hq, or_alive]
  simp only [Option.bind_some, if_true]

end Go.Proofs.Ytgklphcnkplkoaa.Pure
