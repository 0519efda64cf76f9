/- Decode: what the document's parser makes of any bytes, as the program's does. -/
import Derived.Test.YtoliipbmcekciaaDoorHDc
import Derived.Test.YtoliipbmcekciaaDoorQDcx6
import Derived.Laws.Bits64b
namespace Go.Proofs.YtoliipbmcekciaaDoor.QDc
open Go.RowKit Go.Shelf Go.Proofs.YtoliipbmcekciaaDoorW.PrintWords Go.Proofs.YtoliipbmcekciaaDoorW.PrintLast Go.Proofs.YtoliipbmcekciaaDoorW.PrintMore
set_option linter.unusedVariables false
set_option linter.unusedSimpArgs false
theorem list16 {l : List Int} (h : l.length = 16) : ∃ a0 a1 a2 a3 a4 a5 a6 a7 a8 a9 a10 a11 a12 a13 a14 a15, l = [a0, a1, a2, a3, a4, a5, a6, a7, a8, a9, a10, a11, a12, a13, a14, a15] := by
  match l, h with
  | [a0, a1, a2, a3, a4, a5, a6, a7, a8, a9, a10, a11, a12, a13, a14, a15], _ => exact ⟨_, _, _, _, _, _, _, _, _, _, _, _, _, _, _, _, rfl⟩
def Byte (a : Int) : Prop := 0 ≤ a ∧ a < 256
theorem or_step (x b j P : Int) (i p : Nat) (hj : j = (i : Int)) (hP : P = (p : Int)) (hp : p = 2 ^ (8 * i)) (hx0 : 0 ≤ x) (hx : x < P) (hb : Byte b) (hi : i < 8) : bits .or .u64 x (shl .u64 (IntKind.u64.wrap b) (IntKind.u64.wrap (8 * IntKind.u64.wrap j))) = x + b * P := by
  subst hj hP
  obtain ⟨h0, h1⟩ := hb
  obtain ⟨n, rfl⟩ := Int.eq_ofNat_of_zero_le hx0
  obtain ⟨m, rfl⟩ := Int.eq_ofNat_of_zero_le h0
  have e1 : IntKind.u64.wrap (8 * IntKind.u64.wrap (i : Int)) = ((8 * i : Nat) : Int) := by rw [IntKind.wrap_u64, IntKind.wrap_u64]; omega
  have e2 : IntKind.u64.wrap (m : Int) = (m : Int) := by rw [IntKind.wrap_u64]; omega
  have hpow : p ≤ 2 ^ 56 := by rw [hp]; exact Nat.pow_le_pow_right (by decide) (by omega)
  have hpos : 0 < p := by rw [hp]; exact Nat.pow_pos (by decide)
  have hm : m * p < 18446744073709551616 := by
    have : m * p ≤ 255 * 2 ^ 56 := Nat.mul_le_mul (by omega) hpow
    omega
  have e3 : shl .u64 (m : Int) ((8 * i : Nat) : Int) = ((m * p : Nat) : Int) := by
    unfold shl
    rw [IntKind.wrap_u64, Int.toNat_natCast, show min (8 * i) IntKind.u64.bits = 8 * i by show min (8 * i) 64 = _; omega, show (2 : Int) ^ (8 * i) = ((2 ^ (8 * i) : Nat) : Int) by push_cast; rfl, ← hp, ← Int.natCast_mul]
    omega
  rw [e1, e2, e3, bits_or_u64_nat n (m * p) (by omega) hm]
  have e4 : n ||| m * p = n + m * p := by
    have := Nat.two_pow_add_eq_or_of_lt (b := n) (i := 8 * i) (by rw [← hp]; omega) m
    rw [← hp, Nat.mul_comm p m] at this
    rw [Nat.or_comm, ← this]; omega
  rw [e4]
  push_cast
  rfl
theorem num_step (x b : Int) (hx0 : 0 ≤ x) (hx : x < 72057594037927936) (hb : Byte b) : IntKind.u64.wrap (IntKind.u64.wrap (x * 256) + IntKind.u64.wrap b) = x * 256 + b := by
  obtain ⟨h0, h1⟩ := hb
  rw [IntKind.wrap_u64, IntKind.wrap_u64, IntKind.wrap_u64]
  omega
theorem num_first (b : Int) (hb : Byte b) : IntKind.u64.wrap (IntKind.u64.wrap 0 + IntKind.u64.wrap b) = b := by
  obtain ⟨h0, h1⟩ := hb
  rw [IntKind.wrap_u64, IntKind.wrap_u64, IntKind.wrap_u64]
  omega
theorem num_get (l : List Int) (h : l.length = 16) (hb : ∀ x ∈ l, Byte x) : rampartref03_number.f 9 ((l.take 8).drop 4) = some (get4 l) ∧ rampartref03_number.f 9 (l.drop 8) = some (get8 l) := by
  obtain ⟨a0, a1, a2, a3, a4, a5, a6, a7, a8, a9, a10, a11, a12, a13, a14, a15, rfl⟩ := list16 h
  simp only [List.mem_cons, List.not_mem_nil, or_false, forall_eq_or_imp, forall_eq] at hb
  obtain ⟨b0, b1, b2, b3, b4, b5, b6, b7, b8, b9, b10, b11, b12, b13, b14, b15⟩ := hb
  have n0 : (0 : Int) ≤ IntKind.u64.wrap (8 * IntKind.u64.wrap 0) := by decide
  have n1 : (0 : Int) ≤ IntKind.u64.wrap (8 * IntKind.u64.wrap 1) := by decide
  have n2 : (0 : Int) ≤ IntKind.u64.wrap (8 * IntKind.u64.wrap 2) := by decide
  have n3 : (0 : Int) ≤ IntKind.u64.wrap (8 * IntKind.u64.wrap 3) := by decide
  have n4 : (0 : Int) ≤ IntKind.u64.wrap (8 * IntKind.u64.wrap 4) := by decide
  have n5 : (0 : Int) ≤ IntKind.u64.wrap (8 * IntKind.u64.wrap 5) := by decide
  have n6 : (0 : Int) ≤ IntKind.u64.wrap (8 * IntKind.u64.wrap 6) := by decide
  have n7 : (0 : Int) ≤ IntKind.u64.wrap (8 * IntKind.u64.wrap 7) := by decide
  have q4 := b4
  have q5 := b5
  have q6 := b6
  have q7 := b7
  have q8 := b8
  have q9 := b9
  have q10 := b10
  have q11 := b11
  have q12 := b12
  have q13 := b13
  have q14 := b14
  have q15 := b15
  unfold Byte at q4 q5 q6 q7 q8 q9 q10 q11 q12 q13 q14 q15
  refine ⟨?_, ?_⟩
  · unfold get4
    simp [wire_part_get.f, wire_part_get.l0, wrap64, rd, rampartref03_number.f, rampartref03_number.l0, n0, n1, n2, n3]
    rw [or_step (0) a4 0 1 0 1 rfl rfl rfl (by omega) (by omega) b4 (by omega)]
    rw [or_step (0 + a4 * 1) a5 1 256 1 256 rfl rfl rfl (by omega) (by omega) b5 (by omega)]
    rw [or_step (0 + a4 * 1 + a5 * 256) a6 2 65536 2 65536 rfl rfl rfl (by omega) (by omega) b6 (by omega)]
    rw [or_step (0 + a4 * 1 + a5 * 256 + a6 * 65536) a7 3 16777216 3 16777216 rfl rfl rfl (by omega) (by omega) b7 (by omega)]
    rw [num_first a7 b7]
    rw [num_step (a7) a6 (by omega) (by omega) b6]
    rw [num_step ((a7) * 256 + a6) a5 (by omega) (by omega) b5]
    rw [num_step (((a7) * 256 + a6) * 256 + a5) a4 (by omega) (by omega) b4]
    omega
  · unfold get8
    simp [wire_part_get.f, wire_part_get.l0, wrap64, rd, rampartref03_number.f, rampartref03_number.l0, n0, n1, n2, n3, n4, n5, n6, n7]
    rw [or_step (0) a8 0 1 0 1 rfl rfl rfl (by omega) (by omega) b8 (by omega)]
    rw [or_step (0 + a8 * 1) a9 1 256 1 256 rfl rfl rfl (by omega) (by omega) b9 (by omega)]
    rw [or_step (0 + a8 * 1 + a9 * 256) a10 2 65536 2 65536 rfl rfl rfl (by omega) (by omega) b10 (by omega)]
    rw [or_step (0 + a8 * 1 + a9 * 256 + a10 * 65536) a11 3 16777216 3 16777216 rfl rfl rfl (by omega) (by omega) b11 (by omega)]
    rw [or_step (0 + a8 * 1 + a9 * 256 + a10 * 65536 + a11 * 16777216) a12 4 4294967296 4 4294967296 rfl rfl rfl (by omega) (by omega) b12 (by omega)]
    rw [or_step (0 + a8 * 1 + a9 * 256 + a10 * 65536 + a11 * 16777216 + a12 * 4294967296) a13 5 1099511627776 5 1099511627776 rfl rfl rfl (by omega) (by omega) b13 (by omega)]
    rw [or_step (0 + a8 * 1 + a9 * 256 + a10 * 65536 + a11 * 16777216 + a12 * 4294967296 + a13 * 1099511627776) a14 6 281474976710656 6 281474976710656 rfl rfl rfl (by omega) (by omega) b14 (by omega)]
    rw [or_step (0 + a8 * 1 + a9 * 256 + a10 * 65536 + a11 * 16777216 + a12 * 4294967296 + a13 * 1099511627776 + a14 * 281474976710656) a15 7 72057594037927936 7 72057594037927936 rfl rfl rfl (by omega) (by omega) b15 (by omega)]
    rw [num_first a15 b15]
    rw [num_step (a15) a14 (by omega) (by omega) b14]
    rw [num_step ((a15) * 256 + a14) a13 (by omega) (by omega) b13]
    rw [num_step (((a15) * 256 + a14) * 256 + a13) a12 (by omega) (by omega) b12]
    rw [num_step ((((a15) * 256 + a14) * 256 + a13) * 256 + a12) a11 (by omega) (by omega) b11]
    rw [num_step (((((a15) * 256 + a14) * 256 + a13) * 256 + a12) * 256 + a11) a10 (by omega) (by omega) b10]
    rw [num_step ((((((a15) * 256 + a14) * 256 + a13) * 256 + a12) * 256 + a11) * 256 + a10) a9 (by omega) (by omega) b9]
    rw [num_step (((((((a15) * 256 + a14) * 256 + a13) * 256 + a12) * 256 + a11) * 256 + a10) * 256 + a9) a8 (by omega) (by omega) b8]
    omega
end Go.Proofs.YtoliipbmcekciaaDoor.QDc
