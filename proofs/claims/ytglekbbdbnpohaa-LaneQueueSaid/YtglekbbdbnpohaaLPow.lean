/- Plain lemmas on powers of two and bits: used by the claims on rings and places. -/
import Derived.Laws.Bits64
import Derived.Laws.BitsLemmas
import Derived.Laws.BitsAllLaws
import Derived.RowKit
import Derived.KernelRfl
namespace Go.Proofs.Ytglekbbdbnpohaa.LPow
open Go.RowKit

theorem and_ne (m j : Nat) (h1 : 2 ^ j < m) (h2 : m < 2 ^ (j + 1)) : m &&& (m - 1) ≠ 0 := by
  intro h
  have hp : 0 < 2 ^ j := Nat.two_pow_pos j
  have e2 : 2 ^ (j + 1) = 2 ^ j + 2 ^ j := by rw [Nat.pow_succ]; omega
  have q1 : m / 2 ^ j = 1 := Nat.div_eq_of_lt_le (by omega) (by omega)
  have q2 : (m - 1) / 2 ^ j = 1 := Nat.div_eq_of_lt_le (by omega) (by omega)
  have t1 : Nat.testBit m j = true := by rw [Nat.testBit_eq_decide_div_mod_eq, q1]; rfl
  have t2 : Nat.testBit (m - 1) j = true := by rw [Nat.testBit_eq_decide_div_mod_eq, q2]; rfl
  have := congrArg (fun x => Nat.testBit x j) h
  simp only [Nat.testBit_and, t1, t2, Nat.zero_testBit] at this
  exact absurd this (by decide)

/-- The sizes that a ring may have. -/
def IsPow (n : Int) : Prop := n = 1 ∨ n = 2 ∨ n = 4 ∨ n = 8 ∨ n = 16 ∨ n = 32 ∨ n = 64 ∨ n = 128 ∨ n = 256 ∨ n = 512 ∨ n = 1024 ∨ n = 2048 ∨ n = 4096 ∨ n = 8192 ∨ n = 16384 ∨ n = 32768 ∨ n = 65536

theorem nat_pow (m : Nat) (h1 : 1 ≤ m) (h2 : m ≤ 65536) (h : m &&& (m - 1) = 0) : IsPow (m : Int) := by
  have a0 := and_ne m 0
  have a1 := and_ne m 1
  have a2 := and_ne m 2
  have a3 := and_ne m 3
  have a4 := and_ne m 4
  have a5 := and_ne m 5
  have a6 := and_ne m 6
  have a7 := and_ne m 7
  have a8 := and_ne m 8
  have a9 := and_ne m 9
  have a10 := and_ne m 10
  have a11 := and_ne m 11
  have a12 := and_ne m 12
  have a13 := and_ne m 13
  have a14 := and_ne m 14
  have a15 := and_ne m 15
  simp only [h, ne_eq, not_true_eq_false, imp_false, Nat.not_lt] at *
  simp only [Nat.reducePow, Nat.reduceAdd] at *
  unfold IsPow
  omega

theorem wraps_i64 (n : Int) (h₀ : 0 ≤ n) (h₁ : n < 2 ^ 63) : IntKind.i64.wrap n = n := by rw [IntKind.wrap_i64]; omega

/-- 'size&(size-1)', where it lies within the bounds. -/
theorem ring_bits (n : Int) (h1 : 1 ≤ n) (h2 : n ≤ 65536) : (bits .and .i64 n (wrap64 (n - 1)) == 0) = true ↔ IsPow n := by
  obtain ⟨m, rfl⟩ := Int.eq_ofNat_of_zero_le (show 0 ≤ n by omega)
  have e : wrap64 ((m : Int) - 1) = ((m - 1 : Nat) : Int) := by unfold wrap64; omega
  rw [e, (bits_nat .i64 63 (by decide) wraps_i64 m (m - 1) (by omega) (by omega)).1, beq_iff_eq]
  constructor
  · intro h
    exact nat_pow m (by omega) (by omega) (by omega)
  · intro h
    unfold IsPow at h
    have : m = 1 ∨ m = 2 ∨ m = 4 ∨ m = 8 ∨ m = 16 ∨ m = 32 ∨ m = 64 ∨ m = 128 ∨ m = 256 ∨ m = 512 ∨ m = 1024 ∨ m = 2048 ∨ m = 4096 ∨ m = 8192 ∨ m = 16384 ∨ m = 32768 ∨ m = 65536 := by omega
    rcases this with rfl | rfl | rfl | rfl | rfl | rfl | rfl | rfl | rfl | rfl | rfl | rfl | rfl | rfl | rfl | rfl | rfl <;> decide

/-- 'x&uint64(size-1)', the size a ring's. -/
theorem place_bits (x n : Int) (h0 : 0 ≤ x) (h1 : x < 18446744073709551616) (hn : IsPow n) : bits .and .u64 x (IntKind.u64.wrap (wrap64 (n - 1))) = x % n := by
  obtain ⟨m, rfl⟩ := Int.eq_ofNat_of_zero_le h0
  have mask : ∀ j : Nat, j ≤ 16 → ((m &&& (2 ^ j - 1) : Nat) : Int) = (m : Int) % ((2 ^ j : Nat) : Int) := by
    intro j _
    rw [Nat.and_two_pow_sub_one_eq_mod]
    rfl
  have key : ∀ j : Nat, j ≤ 16 → n = ((2 ^ j : Nat) : Int) → bits .and .u64 (m : Int) (IntKind.u64.wrap (wrap64 (n - 1))) = (m : Int) % n := by
    intro j hj he
    have hp : 2 ^ j ≤ 2 ^ 16 := Nat.pow_le_pow_right (by decide) hj
    have hp0 : 0 < 2 ^ j := Nat.two_pow_pos j
    have e : IntKind.u64.wrap (wrap64 (n - 1)) = ((2 ^ j - 1 : Nat) : Int) := by rw [IntKind.wrap_u64, he]; unfold wrap64; omega
    rw [e, u64_and_nat m (2 ^ j - 1) (by omega) (by omega), mask j hj, he]
  unfold IsPow at hn
  rcases hn with h | h | h | h | h | h | h | h | h | h | h | h | h | h | h | h | h
  · exact key 0 (by decide) h
  · exact key 1 (by decide) h
  · exact key 2 (by decide) h
  · exact key 3 (by decide) h
  · exact key 4 (by decide) h
  · exact key 5 (by decide) h
  · exact key 6 (by decide) h
  · exact key 7 (by decide) h
  · exact key 8 (by decide) h
  · exact key 9 (by decide) h
  · exact key 10 (by decide) h
  · exact key 11 (by decide) h
  · exact key 12 (by decide) h
  · exact key 13 (by decide) h
  · exact key 14 (by decide) h
  · exact key 15 (by decide) h
  · exact key 16 (by decide) h

end Go.Proofs.Ytglekbbdbnpohaa.LPow
