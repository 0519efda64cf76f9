/- Decode: the document's Has (plain math). -/
import Derived.Test.YtoliipbmcekciaaDoorJDd
import Derived.Test.YtoliipbmcekciaaDoorHDd
import Derived.Test.YtoliipbmcekciaaDoorQDdHas
import Derived.Laws.Bits64b
namespace Go.Proofs.YtoliipbmcekciaaDoor.QDd
open Go.RowKit Go.Proofs.YtoliipbmcekciaaDoorW.PrintWords Go.Proofs.YtoliipbmcekciaaDoorW.PrintLast Go.Proofs.YtoliipbmcekciaaDoorW.PrintMore
set_option linter.unusedVariables false
set_option linter.unusedSimpArgs false
def U64 (s : Int) : Prop := 0 ≤ s ∧ s < 18446744073709551616
theorem hasBit_nat (n i : Nat) (hn : n < 18446744073709551616) (hi : i < 64) : hasBit (n : Int) (i : Int) = n.testBit i := by
  unfold hasBit
  rw [if_pos ⟨by omega, by omega⟩]
  have hp : (2 : Nat) ^ i < 18446744073709551616 := by
    have : (2 : Nat) ^ i ≤ 2 ^ 63 := Nat.pow_le_pow_right (by decide) (by omega)
    omega
  have e : shl .u64 1 (i : Int) = ((2 ^ i : Nat) : Int) := by
    unfold shl
    rw [IntKind.wrap_u64, Int.toNat_natCast, show min i IntKind.u64.bits = i by show min i 64 = _; omega, show (2 : Int) ^ i = ((2 ^ i : Nat) : Int) by push_cast; rfl, Int.one_mul]
    generalize 2 ^ i = p at hp ⊢
    omega
  rw [e, bits_and_u64_nat n (2 ^ i) hn hp]
  cases hb : n.testBit i with
  | false =>
    have : n &&& 2 ^ i = 0 := by
      apply Nat.eq_of_testBit_eq
      intro j
      rw [Nat.testBit_and, Nat.testBit_two_pow, Nat.zero_testBit]
      by_cases hj : i = j
      · subst hj; rw [hb]; rfl
      · rw [decide_eq_false hj, Bool.and_false]
    rw [this]
    rfl
  | true =>
    have : n &&& 2 ^ i ≠ 0 := by
      intro h
      have h2 : (n &&& 2 ^ i).testBit i = true := by rw [Nat.testBit_and, Nat.testBit_two_pow, hb, decide_eq_true rfl]; rfl
      rw [h, Nat.zero_testBit] at h2
      exact absurd h2 (by decide)
    generalize n &&& 2 ^ i = q at this ⊢
    simp
    omega
theorem RHas_l0 : ∀ (k i n : Nat), i < k → i < 64 → n < 18446744073709551616 → rampartref01_Has.l0 k (n : Int) (i : Int) = some (n.testBit i)
  | 0, i, n, h, _, _ => absurd h (by omega)
  | k + 1, 0, n, _, _, _ => by
    rw [rampartref01_Has.l0, if_neg (by omega)]
    have : Int.tmod (n : Int) 2 = ((n % 2 : Nat) : Int) := by rw [Int.tmod_eq_emod_of_nonneg (by omega)]; omega
    rw [this, Nat.testBit_zero]
    rcases Nat.mod_two_eq_zero_or_one n with h | h <;> rw [h] <;> rfl
  | k + 1, i + 1, n, h, hi, hn => by
    rw [rampartref01_Has.l0, if_pos (by omega)]
    have e1 : IntKind.u64.wrap (Int.tdiv (n : Int) 2) = ((n / 2 : Nat) : Int) := by rw [IntKind.wrap_u64, Int.tdiv_eq_ediv_of_nonneg (by omega)]; omega
    have e2 : wrap64 (((i + 1 : Nat) : Int) - 1) = (i : Int) := by unfold wrap64; omega
    rw [e1, e2, RHas_l0 k i (n / 2) (by omega) (by omega) (by omega), Nat.testBit_succ]
theorem R01Has_eq {s : Int} (h : U64 s) (i : Int) (k : Nat) (hk : 66 ≤ k) : rampartref01_Has.f k s i = some (hasBit s i) := by
  obtain ⟨k, rfl⟩ : ∃ m, k = m + 1 := ⟨k - 1, by omega⟩
  obtain ⟨n, rfl⟩ := Int.eq_ofNat_of_zero_le h.1
  unfold rampartref01_Has.f
  by_cases h0 : i < 0
  · rw [if_pos h0, rampartref01_Has.j0, if_pos rfl]
    unfold hasBit
    rw [if_neg (fun hh => by omega)]
  · by_cases h1 : i ≥ 64
    · rw [if_neg h0, decide_eq_true h1, rampartref01_Has.j0, if_pos rfl]
      unfold hasBit
      rw [if_neg (fun hh => by omega)]
    · obtain ⟨j, rfl⟩ := Int.eq_ofNat_of_zero_le (Int.not_lt.1 h0)
      rw [if_neg h0, decide_eq_false h1, rampartref01_Has.j0, if_neg (by decide), RHas_l0 k j n (by omega) (by omega) (by have := h.2; omega), hasBit_nat n j (by have := h.2; omega) (by omega)]
theorem u64_of {x : Int} (h : (Lit.int .u64 x).wf = true) : U64 x := by
  simp only [Lit.wf, IntKind.min, IntKind.max, IntKind.signed, IntKind.bits, Bool.and_eq_true, decide_eq_true_eq] at h
  unfold U64
  simp at h
  omega
end Go.Proofs.YtoliipbmcekciaaDoor.QDd
