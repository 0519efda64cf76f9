/- OrderPlaces: as many numbers as a ring's size, one behind the other, have each place once, wherever they begin. No condition. -/
import Derived.Test.YtgklphcnkplkoaaPOrderPlacesx1
import Derived.Test.YtgklphcnkplkoaaLPow
namespace Go.Proofs.Ytgklphcnkplkoaa.Pure
open Go.RowKit Go.Proofs.Ytgklphcnkplkoaa.POrderPlaces Go.Proofs.YtgklphcnkplkoaaW.PrintWords Go.Proofs.YtgklphcnkplkoaaW.PrintLast Go.Proofs.YtgklphcnkplkoaaW.PrintMore
open Go.Proofs.Ytgklphcnkplkoaa.LPow

theorem op_u64 {a : Int} (h : (Lit.int .u64 a).wf = true) : 0 ≤ a ∧ a < 18446744073709551616 := by
  have hmin : IntKind.u64.min = 0 := rfl
  have hmax : IntKind.u64.max = 18446744073709551615 := rfl
  simp only [Lit.wf, Bool.and_eq_true, decide_eq_true_eq] at h
  omega
theorem op_alive : rampartlaw07_alive.f 40 = some true := by kernel_rfl
theorem op_alive' (k : Nat) (h : 40 ≤ k) : rampartlaw07_alive.f k = some true := at_rounds (g := fun k => rampartlaw07_alive.f k) rampartlaw07_alive.mono h op_alive
theorem op_place (x n : Int) (h0 : 0 ≤ x) (h1 : x < 18446744073709551616) (hn : IsPow n) (hs : n ≤ 256) : order_Place.f x n = some (x % n, 0) := by
  have hn' := hn
  unfold IsPow at hn'
  unfold order_Place.f order_ring.f
  rw [if_pos (by omega), if_pos (by omega), (ring_bits n (by omega) (by omega)).2 hn]
  simp only [Option.bind_some, if_true]
  rw [place_bits x n h0 h1 hn]
  have : wrap64 (x % n) = x % n := by
    have a1 : 0 ≤ x % n := Int.emod_nonneg _ (by omega)
    have a2 : x % n < n := Int.emod_lt_of_pos _ (by omega)
    unfold wrap64; omega
  rw [this]

theorem op_loop (S from_ : Int) (hS : 0 < S) (hS' : S ≤ 256) (hmod : ∀ x : Int, x % 18446744073709551616 % S = x % S) (hinj : ∀ a b : Int, a % S = b % S → a ≤ b → b < a + S → a = b)
    (hpl : ∀ x : Int, 0 ≤ x → x < 18446744073709551616 → order_Place.f x S = some (x % S, 0)) (d : Nat) : ∀ (k : Nat) (i : Int) (seen : List Bool), S - i = d → 0 ≤ i → (seen.length : Int) = S →
    (∀ j : Nat, seen.getD j false = true → ∃ i', 0 ≤ i' ∧ i' < i ∧ (from_ + i') % S = (j : Int)) → d + 41 ≤ k → rampartlaw07_OrderPlaces.l0 k from_ S seen i = some true := by
  induction d with
  | zero =>
    intro k i seen hd h0 hl hseen hk
    obtain ⟨k, rfl⟩ : ∃ m, k = m + 1 := ⟨k - 1, by omega⟩
    simp only [rampartlaw07_OrderPlaces.l0]
    rw [if_neg (by omega), op_alive' k (by omega)]
    rfl
  | succ d ih =>
    intro k i seen hd h0 hl hseen hk
    obtain ⟨k, rfl⟩ : ∃ m, k = m + 1 := ⟨k - 1, by omega⟩
    simp only [rampartlaw07_OrderPlaces.l0]
    have e1 : IntKind.u64.wrap i = i := by rw [IntKind.wrap_u64]; omega
    have e2 : IntKind.u64.wrap (from_ + i) = (from_ + i) % 18446744073709551616 := IntKind.wrap_u64 _
    rw [if_pos (by omega), e1, e2, hpl _ (by omega) (by omega), hmod]
    simp only [Option.bind_some, if_true]
    have p0 : 0 ≤ (from_ + i) % S := Int.emod_nonneg _ (by omega)
    have p1 : (from_ + i) % S < S := Int.emod_lt_of_pos _ hS
    have hns : seen.getD ((from_ + i) % S).toNat false = false := by
      cases h : seen.getD ((from_ + i) % S).toNat false with
      | false => rfl
      | true =>
        obtain ⟨i', a1, a2, a3⟩ := hseen _ h
        have := hinj (from_ + i') (from_ + i) (by omega) (by omega) (by omega)
        omega
    rw [if_neg (by omega), if_neg (by omega), if_pos p0, if_pos (by omega)]
    unfold rdOf
    rw [hns]
    simp only [Bool.false_eq_true, if_false]
    have e3 : wrap64 (i + 1) = i + 1 := by unfold wrap64; omega
    rw [e3]
    refine ih k (i + 1) _ (by omega) (by omega) (by rw [List.length_set]; exact hl) ?_ (by omega)
    intro j hj
    by_cases c : j = ((from_ + i) % S).toNat
    · exact ⟨i, h0, by omega, by omega⟩
    · have : seen.getD j false = true := by
        rw [← hj, List.getD_eq_getElem?_getD, List.getD_eq_getElem?_getD, List.getElem?_set_ne (fun h => c h.symm)]
      obtain ⟨i', a1, a2, a3⟩ := hseen j this
      exact ⟨i', a1, by omega, a3⟩

theorem OrderPlaces : rampartlaw07_OrderPlaces.Pure := by
  intro a0 a1 h0 h1
  refine ⟨400, ?_⟩
  unfold rampartlaw07_OrderPlaces.f
  have ja : ∀ x y : Int, rampartlaw07_OrderPlaces.j0 400 x y true = some true := by
    intro x y
    rw [show (400 : Nat) = 399 + 1 from rfl]
    simp only [rampartlaw07_OrderPlaces.j0, if_true]
    rw [op_alive' 399 (by omega)]
    rfl
  by_cases c1 : a1 < 0
  · rw [if_pos c1]; exact ja _ _
  by_cases c2 : a1 > 8
  · rw [if_neg c1, decide_eq_true c2]; exact ja _ _
  rw [if_neg c1, decide_eq_false c2, show (400 : Nat) = 399 + 1 from rfl]
  simp only [rampartlaw07_OrderPlaces.j0, Bool.false_eq_true, if_false]
  have e : IntKind.u64.wrap a1 = a1 := by rw [IntKind.wrap_u64]; omega
  rw [e, if_pos (by omega)]
  have key : ∀ S : Int, shl .i64 1 a1 = S → IsPow S → S ≤ 256 → (∀ x : Int, x % 18446744073709551616 % S = x % S) → (∀ a b : Int, a % S = b % S → a ≤ b → b < a + S → a = b) →
      (if 0 ≤ shl .i64 1 a1 then if (shl .i64 1 a1).toNat ≤ 281474976710656 then rampartlaw07_OrderPlaces.l0 399 a0 (shl .i64 1 a1) (List.replicate (shl .i64 1 a1).toNat false) 0 else none else none) = some true := by
    intro S hS hp hs hmod hinj
    have hp' := hp
    unfold IsPow at hp'
    rw [hS, if_pos (by omega), if_pos (by omega)]
    refine op_loop S a0 (by omega) hs hmod hinj (fun x x0 x1 => op_place x S x0 x1 hp hs) S.toNat 399 0 _ (by omega) (by omega) (by rw [List.length_replicate]; omega) ?_ (by omega)
    intro j hj
    rw [List.getD_eq_getElem?_getD, List.getElem?_replicate] at hj
    split at hj <;> cases hj
  have hc : a1 = 0 ∨ a1 = 1 ∨ a1 = 2 ∨ a1 = 3 ∨ a1 = 4 ∨ a1 = 5 ∨ a1 = 6 ∨ a1 = 7 ∨ a1 = 8 := by omega
  rcases hc with rfl | rfl | rfl | rfl | rfl | rfl | rfl | rfl | rfl
  · exact key 1 (by kernel_rfl) (by unfold IsPow; decide) (by omega) (fun x => by omega) (fun a b => by omega)
  · exact key 2 (by kernel_rfl) (by unfold IsPow; decide) (by omega) (fun x => by omega) (fun a b => by omega)
  · exact key 4 (by kernel_rfl) (by unfold IsPow; decide) (by omega) (fun x => by omega) (fun a b => by omega)
  · exact key 8 (by kernel_rfl) (by unfold IsPow; decide) (by omega) (fun x => by omega) (fun a b => by omega)
  · exact key 16 (by kernel_rfl) (by unfold IsPow; decide) (by omega) (fun x => by omega) (fun a b => by omega)
  · exact key 32 (by kernel_rfl) (by unfold IsPow; decide) (by omega) (fun x => by omega) (fun a b => by omega)
  · exact key 64 (by kernel_rfl) (by unfold IsPow; decide) (by omega) (fun x => by omega) (fun a b => by omega)
  · exact key 128 (by kernel_rfl) (by unfold IsPow; decide) (by omega) (fun x => by omega) (fun a b => by omega)
  · exact key 256 (by kernel_rfl) (by unfold IsPow; decide) (by omega) (fun x => by omega) (fun a b => by omega)

end Go.Proofs.Ytgklphcnkplkoaa.Pure
