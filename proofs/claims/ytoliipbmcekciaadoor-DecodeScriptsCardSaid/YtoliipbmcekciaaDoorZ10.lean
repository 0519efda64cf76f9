/- Texts of this claim, joined: WDDe, XBDe, WADe, WBDe, WCDe, XHDe. -/
import Derived.Test.YtoliipbmcekciaaDoorZ08
import Derived.Test.YtoliipbmcekciaaDoorZ09
import Derived.RangeFuncNested
import Derived.RangeFuncBound
import Derived.RangeFuncCalls
import Derived.RangeFuncLeaves
import Derived.Shelf.Abstract
import Derived.Shelf.RegionOpen
import Derived.OwnWalkIn
import Derived.TacticsInMore
import Derived.LoopNIn
import Derived.LoopIn
import Derived.RangeFuncBox
import Derived.Maps.AppendAt
import Derived.OrdersIn
import Derived.Deep.RegionHeld
namespace Go.Proofs.YtoliipbmcekciaaDoor.QDd
open Go.RowKit Go.Proofs.YtoliipbmcekciaaDoorW.PrintWords Go.Proofs.YtoliipbmcekciaaDoorW.PrintLast Go.Proofs.YtoliipbmcekciaaDoorW.PrintMore
set_option linter.unusedVariables false
set_option linter.unusedSimpArgs false
theorem U64.nat {x : Int} (h : U64 x) : ∃ n : Nat, x = n ∧ n < 18446744073709551616 := by
  obtain ⟨n, rfl⟩ := Int.eq_ofNat_of_zero_le h.1
  exact ⟨n, rfl, by have := h.2; omega⟩
theorem or_u64 {x y : Int} (hx : U64 x) (hy : U64 y) : U64 (bits .or .u64 x y) ∧ ∀ i : Nat, i < 64 → hasBit (bits .or .u64 x y) (i : Int) = (hasBit x (i : Int) || hasBit y (i : Int)) := by
  obtain ⟨a, rfl, ha⟩ := hx.nat
  obtain ⟨b, rfl, hb⟩ := hy.nat
  rw [bits_or_u64_nat a b ha hb]
  have hlt : a ||| b < 18446744073709551616 := by
    have := Nat.or_lt_two_pow (n := 64) (x := a) (y := b) (by omega) (by omega)
    omega
  refine ⟨⟨by omega, by omega⟩, fun i hi => ?_⟩
  rw [hasBit_nat _ i hlt hi, hasBit_nat _ i ha hi, hasBit_nat _ i hb hi, Nat.testBit_or]
theorem one_u64 {m : Nat} (hm : m < 64) : U64 (shl .u64 1 (m : Int)) ∧ ∀ i : Nat, i < 64 → hasBit (shl .u64 1 (m : Int)) (i : Int) = decide (m = i) := by
  have hp : (2 : Nat) ^ m < 18446744073709551616 := by
    have : (2 : Nat) ^ m ≤ 2 ^ 63 := Nat.pow_le_pow_right (by decide) (by omega)
    omega
  have e : shl .u64 1 (m : Int) = ((2 ^ m : Nat) : Int) := by
    unfold shl
    rw [IntKind.wrap_u64, Int.toNat_natCast, show min m IntKind.u64.bits = m by show min m 64 = _; omega, show (2 : Int) ^ m = ((2 ^ m : Nat) : Int) by push_cast; rfl, Int.one_mul]
    generalize 2 ^ m = p at hp ⊢
    omega
  rw [e]
  clear e
  refine ⟨⟨Int.natCast_nonneg _, ?_⟩, fun i hi => ?_⟩
  · show ((2 ^ m : Nat) : Int) < ((18446744073709551616 : Nat) : Int)
    exact Int.ofNat_lt.2 hp
  rw [hasBit_nat _ i hp hi, Nat.testBit_two_pow]
theorem ext_u64 {x y : Int} (hx : U64 x) (hy : U64 y) (h : ∀ i : Nat, i < 64 → hasBit x (i : Int) = hasBit y (i : Int)) : x = y := by
  obtain ⟨a, rfl, ha⟩ := hx.nat
  obtain ⟨b, rfl, hb⟩ := hy.nat
  congr 1
  apply Nat.eq_of_testBit_eq
  intro i
  by_cases hi : i < 64
  · have := h i hi
    rwa [hasBit_nat a i ha hi, hasBit_nat b i hb hi] at this
  · have h1 : a < 2 ^ i := Nat.lt_of_lt_of_le (show a < 2 ^ 64 by omega) (Nat.pow_le_pow_right (by decide) (by omega))
    have h2 : b < 2 ^ i := Nat.lt_of_lt_of_le (show b < 2 ^ 64 by omega) (Nat.pow_le_pow_right (by decide) (by omega))
    rw [Nat.testBit_lt_two_pow h1, Nat.testBit_lt_two_pow h2]
theorem sub_of_zero {x y : Int} (hx : U64 x) (hy : U64 y) (h : bits .andNot .u64 x y = 0) (i : Nat) (hi : i < 64) (hb : hasBit x (i : Int) = true) : hasBit y (i : Int) = true := by
  obtain ⟨a, rfl, ha⟩ := hx.nat
  obtain ⟨b, rfl, hb'⟩ := hy.nat
  rw [hasBit_nat _ i ha hi] at hb
  rw [hasBit_nat _ i hb' hi]
  exact bits_andNot_u64_nat a b ha hb' h i hb
theorem zero_of_sub {x y : Int} (hx : U64 x) (hy : U64 y) (h : ∀ i : Nat, i < 64 → hasBit x (i : Int) = true → hasBit y (i : Int) = true) : bits .andNot .u64 x y = 0 := by
  obtain ⟨a, rfl, ha⟩ := hx.nat
  obtain ⟨b, rfl, hb⟩ := hy.nat
  have hz : BitVec.ofInt 64 (a : Int) &&& ~~~(BitVec.ofInt 64 (b : Int)) = 0#64 := by
    apply BitVec.eq_of_getLsbD_eq
    intro i hi
    simp only [BitVec.getLsbD_and, BitVec.getLsbD_not, BitVec.getLsbD_zero, hi, decide_true, Bool.true_and, BitVec.ofInt_natCast, BitVec.getLsbD_ofNat]
    cases hba : a.testBit i with
    | false => simp
    | true =>
      have := h i hi (by rw [hasBit_nat a i ha hi]; exact hba)
      rw [hasBit_nat b i hb hi] at this
      rw [this]; simp
  show IntKind.u64.wrap ((BitVec.ofInt 64 (a : Int) &&& ~~~(BitVec.ofInt 64 (b : Int))).toNat : Int) = 0
  rw [hz]
  rfl
def AllU (r : Nat → Int) : Prop := ∀ i, U64 (r i)
/-- Every row of the one lies in the other's. -/
def Sub (r r' : Nat → Int) : Prop := ∀ i j : Nat, j < 64 → hasBit (r i) (j : Int) = true → hasBit (r' i) (j : Int) = true
theorem Sub.refl (r : Nat → Int) : Sub r r := fun _ _ _ h => h
theorem Sub.trans {a b c : Nat → Int} (h : Sub a b) (k : Sub b c) : Sub a c := fun i j hj hb => k i j hj (h i j hj hb)
theorem put_u {r : Nat → Int} (h : AllU r) (a : Nat) {v : Int} (hv : U64 v) : AllU (putR r a v) := fun i => by
  unfold putR
  split
  · exact hv
  · exact h i
theorem put_sub {r : Nat → Int} (h : AllU r) (a : Nat) {y : Int} (hy : U64 y) : Sub r (putR r a (bits .or .u64 (r a) y)) := fun i j hj hb => by
  unfold putR
  split
  · rename_i e
    subst e
    rw [(or_u64 (h i) hy).2 j hj, hb, Bool.true_or]
  · exact hb
theorem refl_u {r : Nat → Int} (h : AllU r) : ∀ m, m ≤ 64 → AllU (reflTo r m) ∧ Sub r (reflTo r m)
  | 0, _ => ⟨h, Sub.refl _⟩
  | m + 1, hm => by
    obtain ⟨h1, h2⟩ := refl_u h m (by omega)
    unfold reflTo
    have ho := one_u64 (m := m) (by omega)
    exact ⟨put_u h1 m (or_u64 (h1 m) ho.1).1, h2.trans (put_sub h1 m ho.1)⟩
theorem refl_in {r : Nat → Int} (h : AllU r) : ∀ m, m ≤ 64 → ∀ i, i < m → hasBit (reflTo r m i) (i : Int) = true
  | 0, _, i, hi => absurd hi (by omega)
  | m + 1, hm, i, hi => by
    obtain ⟨h1, _⟩ := refl_u h m (by omega)
    have ho := one_u64 (m := m) (by omega)
    by_cases e : i = m
    · subst e
      unfold reflTo putR
      rw [if_pos rfl, (or_u64 (h1 i) ho.1).2 i (by omega), ho.2 i (by omega), decide_eq_true rfl, Bool.or_true]
    · unfold reflTo
      exact put_sub h1 m ho.1 i i (by omega) (refl_in h m (by omega) i (by omega))
theorem step_u {r : Nat → Int} (h : AllU r) (k a : Nat) : AllU (stepTo r k a) ∧ Sub r (stepTo r k a) := by
  unfold stepTo
  split
  · exact ⟨put_u h a (or_u64 (h a) (h k)).1, put_sub h a (h k)⟩
  · exact ⟨h, Sub.refl _⟩
theorem in_u {r : Nat → Int} (h : AllU r) (k : Nat) : ∀ m, AllU (inTo r k m) ∧ Sub r (inTo r k m)
  | 0 => ⟨h, Sub.refl _⟩
  | m + 1 => by
    obtain ⟨h1, h2⟩ := in_u h k m
    unfold inTo
    exact ⟨(step_u h1 k m).1, h2.trans (step_u h1 k m).2⟩
theorem in_has {r : Nat → Int} (h : AllU r) {k : Nat} (hk : k < 64) : ∀ m a, a < m → hasBit (r a) (k : Int) = true → ∀ j : Nat, j < 64 → hasBit (r k) (j : Int) = true → hasBit (inTo r k m a) (j : Int) = true
  | 0, a, ha, _, _, _, _ => absurd ha (by omega)
  | m + 1, a, ha, hb, j, hj, hc => by
    obtain ⟨h1, h2⟩ := in_u h k m
    by_cases e : a = m
    · subst e
      unfold inTo
      rw [stepTo_yes (h2 a k hk hb)]
      unfold putR
      rw [if_pos rfl, (or_u64 (h1 a) (h1 k)).2 j hj, h2 k j hj hc, Bool.or_true]
    · unfold inTo
      exact (step_u h1 k m).2 a j hj (in_has h hk m a (by omega) hb j hj hc)
theorem out_u {r : Nat → Int} (h : AllU r) (n : Nat) : ∀ m, AllU (outTo r n m) ∧ Sub r (outTo r n m)
  | 0 => ⟨h, Sub.refl _⟩
  | m + 1 => by
    obtain ⟨h1, h2⟩ := out_u h n m
    unfold outTo
    exact ⟨(in_u h1 m n).1, h2.trans (in_u h1 m n).2⟩
theorem out_has {r : Nat → Int} (h : AllU r) (n : Nat) (hn : n ≤ 64) : ∀ m, m ≤ n → ∀ k, k < m → ∀ a, a < n → hasBit (r a) (k : Int) = true → ∀ j : Nat, j < 64 → hasBit (r k) (j : Int) = true → hasBit (outTo r n m a) (j : Int) = true
  | 0, _, k, hk, _, _, _, _, _, _ => absurd hk (by omega)
  | m + 1, hm, k, hk, a, ha, hb, j, hj, hc => by
    obtain ⟨h1, h2⟩ := out_u h n m
    unfold outTo
    by_cases e : k = m
    · subst e
      exact in_has h1 (by omega) n a ha (h2 a k (by omega) hb) j hj (h2 k j hj hc)
    · exact (in_u h1 m n).2 a j hj (out_has h n hn m (by omega) k (by omega) a ha hb j hj hc)
theorem put_same (r : Nat → Int) (a : Nat) : putR r a (r a) = r := by
  funext j
  unfold putR
  split
  · rename_i e; rw [e]
  · rfl
theorem refl_same {r : Nat → Int} (h : AllU r) {n : Nat} (hn : n ≤ 64) (hr : ∀ a, a < n → hasBit (r a) (a : Int) = true) : ∀ m, m ≤ n → reflTo r m = r
  | 0, _ => rfl
  | m + 1, hm => by
    have ho := one_u64 (m := m) (by omega)
    unfold reflTo
    rw [refl_same h hn hr m (by omega)]
    have e : bits .or .u64 (r m) (shl .u64 1 (m : Int)) = r m := ext_u64 (or_u64 (h m) ho.1).1 (h m) (fun i hi => by
      rw [(or_u64 (h m) ho.1).2 i hi, ho.2 i hi]
      by_cases e : m = i
      · subst e; rw [hr m (by omega)]; rfl
      · rw [decide_eq_false e, Bool.or_false])
    rw [e, put_same]
theorem in_same {r : Nat → Int} (h : AllU r) {n k : Nat} (ht : ∀ a, a < n → hasBit (r a) (k : Int) = true → ∀ j : Nat, j < 64 → hasBit (r k) (j : Int) = true → hasBit (r a) (j : Int) = true) : ∀ m, m ≤ n → inTo r k m = r
  | 0, _ => rfl
  | m + 1, hm => by
    unfold inTo
    rw [in_same h ht m (by omega)]
    cases hb : hasBit (r m) (k : Int) with
    | false => exact stepTo_no hb
    | true =>
      rw [stepTo_yes hb]
      have e : bits .or .u64 (r m) (r k) = r m := ext_u64 (or_u64 (h m) (h k)).1 (h m) (fun i hi => by
        rw [(or_u64 (h m) (h k)).2 i hi]
        cases hk : hasBit (r k) (i : Int) with
        | false => rw [Bool.or_false]
        | true => rw [ht m (by omega) hb i hi hk]; rfl)
      rw [e, put_same]
theorem out_same {r : Nat → Int} (h : AllU r) {n : Nat} (ht : ∀ k, k < n → ∀ a, a < n → hasBit (r a) (k : Int) = true → ∀ j : Nat, j < 64 → hasBit (r k) (j : Int) = true → hasBit (r a) (j : Int) = true) : ∀ m, m ≤ n → outTo r n m = r
  | 0, _ => rfl
  | m + 1, hm => by
    unfold outTo
    rw [out_same h ht m (by omega)]
    exact in_same h (ht m (by omega)) n (Nat.le_refl _)
def misA (l : List Int) (a : Nat) : Int := bits .andNot .u64 (closF (fun i => rd l (i : Int)) l.length a) (rd l (a : Int))
theorem rows_u {l : List Int} (hu : ∀ x ∈ l, U64 x) : AllU (fun i => rd l (i : Int)) := fun i => by
  by_cases hi : i < l.length
  · exact rd_u64 hu hi
  · show U64 (rd l (i : Int))
    unfold rd
    rw [Int.toNat_natCast, List.getD_eq_getElem?_getD, List.getElem?_eq_none (by omega)]
    exact ⟨by decide, by decide⟩
theorem mis_of_ok {l : List Int} (hu : ∀ x ∈ l, U64 x) (h16 : l.length ≤ 16) (h : ∀ a, a < l.length → polE l a = 0) (a : Nat) : misA l a = 0 := by
  have hr := rows_u hu
  have h1 : ∀ a, a < l.length → hasBit (rd l (a : Int)) (a : Int) = true := fun a ha => by
    have := h a ha
    unfold polE at this
    cases hb : hasBit (rd l (a : Int)) (a : Int) with
    | true => rfl
    | false => rw [hb, if_pos rfl] at this; exact absurd this (by decide)
  have h2 : ∀ k, k < l.length → ∀ a, a < l.length → hasBit (rd l (a : Int)) (k : Int) = true → ∀ j : Nat, j < 64 → hasBit (rd l (k : Int)) (j : Int) = true → hasBit (rd l (a : Int)) (j : Int) = true := fun k hk a ha hb j hj hc => by
    have := h a ha
    unfold polE at this
    rw [h1 a ha, if_neg (by decide)] at this
    cases ht : anyTo (polQ l a) l.length with
    | true => rw [ht, if_pos rfl] at this; exact absurd this (by decide)
    | false =>
      have hq := anyTo_false _ ht k hk
      unfold polQ at hq
      rw [hb, Bool.true_and] at hq
      exact sub_of_zero (hr k) (hr a) (by simpa using hq) j hj hc
  unfold misA closF
  rw [refl_same hr (n := l.length) (by omega) h1 _ (Nat.le_refl _), out_same hr h2 _ (Nat.le_refl _)]
  exact zero_of_sub (hr a) (hr a) (fun _ _ hb => hb)
theorem mis_of_bad {l : List Int} (hu : ∀ x ∈ l, U64 x) (h16 : l.length ≤ 16) {a : Nat} (ha : a < l.length) (h : polE l a ≠ 0) : misA l a ≠ 0 := by
  have hr := rows_u hu
  obtain ⟨h1, h2⟩ := refl_u hr l.length (by omega)
  obtain ⟨h3, h4⟩ := out_u h1 l.length l.length
  intro hz
  have hsub := sub_of_zero (h3 a) (hr a) hz
  apply h
  have hself : hasBit (rd l (a : Int)) (a : Int) = true := hsub a (by omega) (h4 a a (by omega) (refl_in hr l.length (by omega) a ha))
  unfold polE
  rw [hself, if_neg (by decide)]
  have hn : anyTo (polQ l a) l.length = false := anyTo_none _ (fun b hb => by
    unfold polQ
    cases hab : hasBit (rd l (a : Int)) (b : Int) with
    | false => rfl
    | true =>
      rw [Bool.true_and]
      have : bits .andNot .u64 (rd l (b : Int)) (rd l (a : Int)) = 0 := zero_of_sub (hr b) (hr a) (fun j hj hc =>
        hsub j hj (out_has h1 l.length (by omega) l.length (Nat.le_refl _) b hb a ha (h2 a b (by omega) hab) j hj (h2 b j hj hc)))
      rw [this]; rfl)
  rw [hn, if_neg (by decide)]
/-- The document's check of flows, by what the program finds missing. -/
theorem r02_mis {l : List Int} (hu : ∀ x ∈ l, U64 x) (h16 : l.length ≤ 16) (h0 : l.length ≠ 0) (hz : r01F l = 0) : r02F l = if (List.range l.length).any (fun a => misA l a != 0) = true then 20 else 0 := by
  unfold r02F
  rw [if_neg (by omega), if_neg h0, if_pos hz]
  by_cases hall : ∀ a, a < l.length → polE l a = 0
  · rw [snd_none (fun j hj => hall j hj), if_neg]
    intro h
    obtain ⟨a, _, hb⟩ := List.any_eq_true.1 h
    rw [mis_of_ok hu h16 hall a] at hb
    exact absurd hb (by decide)
  · have hex : ∃ a, a < l.length ∧ polE l a ≠ 0 := by
      apply Classical.byContradiction
      intro hn
      exact hall (fun a ha => Classical.byContradiction fun h => hn ⟨a, ha, h⟩)
    obtain ⟨a, ha, hp⟩ := hex
    rw [if_pos (List.any_eq_true.2 ⟨a, List.mem_range.2 ha, by have := mis_of_bad hu h16 ha hp; simpa using this⟩)]
    have hne : sndOf (scan (polE l) 0 l.length) ≠ 0 := fun h => hp (scan_zero _ _ h a (Nat.zero_le _) (by omega))
    rcases snd_cases (polE l) l.length 0 with h | ⟨k, _, _, h3⟩
    · exact absurd h hne
    · rw [h3] at hne ⊢
      unfold polE at hne ⊢
      split
      · rfl
      · split
        · rfl
        · rename_i g1 g2
          rw [if_neg g1, if_neg g2] at hne
          exact absurd rfl hne
end Go.Proofs.YtoliipbmcekciaaDoor.QDd

namespace Go.Proofs.YtoliipbmcekciaaDoor.QDd
open Go.RowKit Go.Proofs.YtoliipbmcekciaaDoorW.PrintWords Go.Proofs.YtoliipbmcekciaaDoorW.PrintLast Go.Proofs.YtoliipbmcekciaaDoorW.PrintMore
open Go.Proofs.YtoliipbmcekciaaDoor.QDc (tk putL putN obj_below take_at yields_blk load_blk load_any store_blk blk_setCells setAll far_setCells below_setCells)
set_option linter.unusedVariables false
set_option linter.unusedSimpArgs false
def misAny (l : List Int) : Bool := (List.range l.length).any (fun a => misA l a != 0)
theorem r02_shape {l : List Int} (hu : ∀ x ∈ l, U64 x) : r02F l = if shapeF l = 0 then (if misAny l = true then 20 else 0) else shapeF l := by
  unfold shapeF
  by_cases h16 : l.length > 16
  · rw [if_pos h16, if_neg (by decide)]; unfold r02F; rw [if_pos h16]
  · rw [if_neg h16]
    by_cases h0 : l.length = 0
    · rw [if_pos h0, if_neg (by decide)]; unfold r02F; rw [if_neg h16, if_pos h0]
    · rw [if_neg h0]
      by_cases hz : r01F l = 0
      · rw [if_pos hz]; exact r02_mis hu (by omega) h0 hz
      · rw [if_neg hz]; unfold r02F; rw [if_neg h16, if_neg h0, if_neg hz]
/-- What lattice.Missing is to tell. -/
def MissTells (l : List Int) : Prop := ∀ (A : Option Addr) (c : Nat) (w : World), Kd.C (Kd.int .u64) w A l.length l → Calls Tryd.prog 108 #[.slice A l.length c] w fun e w2 => (∃ A2 k c2, e = .returned (.tuple #[.slice A2 k c2, .int .i64 (shapeF l)]) ∧ (shapeF l = 0 → decide (0 < k) = misAny l)) ∧ Below w.heap.size w w2
set_option maxRecDepth 100000 in
set_option maxHeartbeats 1000000 in
theorem latCheck_of (A : Option Addr) (c : Nat) (l : List Int) (w : World) (hr : Kd.C (Kd.int .u64) w A l.length l) (hu : ∀ x ∈ l, U64 x) (hm : MissTells l) : Calls Tryd.prog 98 #[.slice A l.length c] w fun e w' => e = .returned (.int .i64 (r02F l)) ∧ Below w.heap.size w w' := by
  have HM := Aside0.mk (hm A c w hr)
  have HF := Aside0.mk (r02_shape hu)
  clear hr hu hm
  rw [HF.out]
  clear HF
  obtain ⟨s, hs⟩ : ∃ s, shapeF l = s := ⟨_, rfl⟩
  obtain ⟨b, hb⟩ : ∃ b, misAny l = b := ⟨_, rfl⟩
  rw [hs, hb] at HM ⊢
  clear hs hb
  by_cases hz : s = 0
  · subst hz
    rw [if_pos rfl]
    cases b with
    | true =>
      go_enter Tryd.func98, Tryd.ntmps98
      go_wp2_with (go_at_call 108; refine HM.out.mono ?_; rintro e w2 ⟨⟨A2, k, c2, rfl, hk⟩, hB⟩; have N1 := Aside0.mk hB; have hk2 : decide (0 < k) = true := hk rfl; have hk3 : decide ((k : Int) > 0) = true := decide_eq_true (by have := of_decide_eq_true hk2; omega); have hk4 : decide (0 < (k : Int)) = true := hk3; clear hB hk)
      go_ret
      exact ⟨rfl, N1.out⟩
    | false =>
      go_enter Tryd.func98, Tryd.ntmps98
      go_wp2_with (go_at_call 108; refine HM.out.mono ?_; rintro e w2 ⟨⟨A2, k, c2, rfl, hk⟩, hB⟩; have N1 := Aside0.mk hB; have hk2 : decide (0 < k) = false := hk rfl; have hk3 : decide ((k : Int) > 0) = false := decide_eq_false (by have := of_decide_eq_false hk2; omega); have hk4 : decide (0 < (k : Int)) = false := hk3; clear hB hk)
      go_ret
      exact ⟨rfl, N1.out⟩
  · rw [if_neg hz]
    have d : (s == 0) = false := by simpa using hz
    have d' : decide (s = 0) = false := decide_eq_false hz
    go_enter Tryd.func98, Tryd.ntmps98
    go_wp2_with (go_at_call 108; refine HM.out.mono ?_; rintro e w2 ⟨⟨A2, k, c2, rfl, -⟩, hB⟩; have N1 := Aside0.mk hB; clear hB)
    go_ret
    exact ⟨rfl, N1.out⟩
set_option maxRecDepth 100000 in
set_option maxHeartbeats 1000000 in
theorem labels2_of (C : Cf) (w : World) (hC : C.At w) (hL : C.Lim) (hm : MissTells C.l0) : Calls Tryd.prog 77 #[.agg C.v] w fun e w' => e = .returned (.agg #[.int .i64 0, .int .i64 (r02F C.l0)]) ∧ Below w.heap.size w w' := by
  have HC := Aside0.mk hC
  have HI := Aside0.mk (fun (A : Option Addr) (c : Nat) (w : World) (hr : Kd.C (Kd.int .u64) w A C.l0.length C.l0) => latCheck_of A c C.l0 w hr hL.u hm)
  clear hC hL hm
  generalize r02F C.l0 = q at HI ⊢
  go_enter Tryd.func77, Tryd.ntmps77
  go_upto_region 1 with fail
  have HT := Aside0.mk (TQ.start C w)
  generalize ((w.alloc (.cells C.v 122)).alloc (.cells #[.int .i64 0, .int .i64 0] 126)) = w2 at HT ⊢
  have x0 := (cq_cell HT.out.e0).1
  obtain ⟨z0, z1, f0, f1⟩ := HT.out.r
  go_wp2_with (go_at_call 98; refine (HI.out _ _ _ (HC.out.below HT.out.b).r0).mono ?_; rintro e w3 ⟨rfl, hb⟩; have HT2 := Aside0.mk (HT.out.below hb); have ⟨u0, u1, s0, s1⟩ := HT2.out.r; clear hb)
  obtain ⟨g0, g1, g2⟩ := HT2.out.fin 0 q
  generalize ((w3.setCell ⟨w.heap.size + 1, 0, none⟩ (.int .i64 0)).setCell ⟨w.heap.size + 1, 1, none⟩ (.int .i64 q)) = w4 at g0 g1 g2 ⊢
  exact bodyPost_ret (v := .agg #[.int .i64 0, .int .i64 q]) (by simp [results, Tryd.results77, go_sem, g1, g2]) rfl ⟨rfl, g0⟩
theorem confCheck_miss (C : Cf) (w : World) (hC : C.At w) (hL : C.Lim) (hm : MissTells C.l0) : Calls Tryd.prog 57 #[.agg C.v] w fun e w' => e = .returned (.tuple #[.int .i64 (chkF C).1, .int .i64 (chkF C).2]) ∧ Below w.heap.size w w' :=
  confCheck_of C w hC hL (fun w' h' => labels2_of C w' h' hL hm)
end Go.Proofs.YtoliipbmcekciaaDoor.QDd

namespace Go.Proofs.YtoliipbmcekciaaDoor.QDd
open Go.RowKit Go.Shelf Go.Proofs.YtoliipbmcekciaaDoorW.PrintWords Go.Proofs.YtoliipbmcekciaaDoorW.PrintLast Go.Proofs.YtoliipbmcekciaaDoorW.PrintMore
open Go.Proofs.YtoliipbmcekciaaDoor.QDc (tk putL putN obj_below take_at yields_blk load_blk load_any store_blk blk_setCells setAll far_setCells below_setCells)
set_option linter.unusedVariables false
set_option linter.unusedSimpArgs false
attribute [local go_sem] Oper.semAt_some
/-- What a round keeps: what lay below, and blocks of other types than a and b. -/
def KpG (a b n₀ : Nat) (W W' : World) : Prop := Below n₀ W W' ∧ ∀ (k : Nat) (cs : Array Value) (t : TypeId), t ≠ a → t ≠ b → W.heap[k]? = some (Obj.cells cs t (0, 0)) → W'.heap[k]? = some (Obj.cells cs t (0, 0))
theorem KpG_t {a b n₀ : Nat} {A B C : World} (h : KpG a b n₀ A B) (k : KpG a b n₀ B C) : KpG a b n₀ A C := ⟨h.1.trans k.1, fun i cs t h1 h2 hb => k.2 i cs t h1 h2 (h.2 i cs t h1 h2 hb)⟩
theorem KpG_b {a b n₀ : Nat} {w : World} (hn : n₀ ≤ w.heap.size) (W : World) (l : Nat) (o o' : Obj) (hl : w.heap.size ≤ l) (h : W.heap[l]? = some o) (h1 : o.isCells = false) (h2 : o.isWalk = false) : KpG a b n₀ W (W.putObj l o') := by
  refine ⟨belowK_b hn W l o o' hl h h1 h2, fun i cs t _ _ hb => ?_⟩
  have hne : i ≠ l := fun e => by subst e; rw [hb] at h; cases h; cases h1
  exact ((grownBy_putObj' W l o').block i (Array.getElem?_eq_some_iff.1 hb).1 (fun e => hne (Option.some.inj e))).trans hb
theorem KpG_app {a b : Nat} {size : Nat} {W w1 : World} {n₀ B : Nat} {v v' : Value} {k m : Nat} {xs ys : List Value} {tmp : Obj} (hrow : W.ownsRow n₀ b size v k xs) (hv : Boxed W B a v) (hB : n₀ ≤ B) (hown' : w1.ownsRow n₀ b size v' m ys) (hgrow : (W.alloc tmp).grownBy w1 v.ownBlock) :
    ∀ (i : Nat) (cs : Array Value) (t : TypeId), t ≠ a → t ≠ b → W.heap[i]? = some (Obj.cells cs t (0, 0)) → (w1.setCell ⟨B, 0, none⟩ v').heap[i]? = some (Obj.cells cs t (0, 0)) := by
  intro i cs t ha hbt hb
  have hne : i ≠ B := fun e => by subst e; rw [show W.heap[i]? = _ from hv] at hb; cases hb; exact ha rfl
  have hlt := (Array.getElem?_eq_some_iff.1 hb).1
  rw [Below.heap_setCell _ _ _ i (by simpa using hne)]
  refine (hgrow.block i (by simp; omega) (fun e => ?_)).trans (((World.grownBy_alloc W tmp none).block i hlt (by simp)).trans hb)
  rcases hrow.2 with ⟨rfl, _⟩ | ⟨g, cap, cur, rfl, _, hgb, _⟩
  · simp [Value.ownBlock] at e
  · obtain rfl : i = g := by simpa [Value.ownBlock] using e
    rw [hgb] at hb; cases hb; exact hbt rfl
theorem bl_yes {s : Int} {m : Nat} (h : hasBit s (m : Int) = true) : bl s (m + 1) = bl s m ++ [(m : Int)] := by rw [bl]; exact if_pos h
theorem bl_no {s : Int} {m : Nat} (h : hasBit s (m : Int) = false) : bl s (m + 1) = bl s m := by rw [bl]; exact if_neg (by rw [h]; decide)
theorem bl_pre (s : Int) (m : Nat) : ∀ d, bl s m <+: bl s (m + d)
  | 0 => List.prefix_refl _
  | d + 1 => by
    refine (bl_pre s m d).trans ?_
    rw [show m + (d + 1) = (m + d) + 1 from rfl]
    cases hb : hasBit s ((m + d : Nat) : Int) with
    | true => rw [bl_yes hb]; exact List.prefix_append _ _
    | false => rw [bl_no hb]; exact List.prefix_refl _
set_option maxRecDepth 100000 in
set_option maxHeartbeats 2000000 in
theorem all125_in (l Bn n₀ : Nat) (s : Int) (W : World) (hBn : W.heap[Bn]? = some (.cells #[.int .u64 s] 45 (0, 0))) (hn : n₀ ≤ W.heap.size)
    (J Jx : List Int → World → Prop) (hJ : AbidesFrom W.heap.size J) (h0 : J [] W)
    (hY : ∀ pre x W1, J pre W1 → pre.length < (bl s 64).length → YieldAt Fence.wide 0 Tryd.prog l #[.int .i64 x] W1 fun e W' => (e = .returned (.bool true) ∧ J (pre ++ [x]) W' ∧ KpG 26 3 n₀ W1 W') ∨ (e = .returned (.bool false) ∧ Jx (pre ++ [x]) W')) :
    Calls Tryd.prog 125 #[.func (.yield l) #[] #[], .pointer (some ⟨Bn, 0, none⟩)] W fun e W' => (∃ v, e = .returned v) ∧ ((∃ ys, ys = bl s 64 ∧ J ys W') ∨ (∃ pre, pre <+: bl s 64 ∧ Jx pre W')) := by
  have HY := Aside0.mk hY
  have HJ := Aside0.mk hJ
  have H0 : Aside0 (0 ≤ 64 ∧ W.heap[Bn]? = some (.cells #[.int .u64 s] 45 (0, 0)) ∧ W.heap.size ≤ W.heap.size ∧ J (bl s 0) W) := ⟨⟨by omega, hBn, Nat.le_refl _, h0⟩⟩
  clear hY hJ h0 hBn
  go_enter Tryd.func125, Tryd.ntmps125
  go_wp2_with fail
  go_loopw [3, 4] (fun _ i wr => ∃ m : Nat, i = .int .i64 (m : Int) ∧ Aside0 (m ≤ 64 ∧ wr.heap[Bn]? = some (.cells #[.int .u64 s] 45 (0, 0)) ∧ W.heap.size ≤ wr.heap.size ∧ J (bl s m) wr)) (fun _ i _ => 64 - (intOf i).toNat)
  case atStart => exact ⟨0, rfl, H0⟩
  case round =>
    clear H0
    obtain ⟨m, rfl, hI⟩ := hrel
    have hm64 : m ≤ 64 := hI.out.1
    by_cases h1 : (m : Int) < 64
    · have e1 : decide ((m : Int) < 64) = true := decide_eq_true h1
      have e1' : decide (m < 64) = true := decide_eq_true (by omega)
      have H1 := Aside0.mk h1
      have cs : wr.cell? ⟨Bn, 0, none⟩ = some (.int .u64 s) := by simp [World.cell?, hI.out.2.1]
      obtain ⟨q, hq⟩ : ∃ q, hasBit s (m : Int) = q := ⟨_, rfl⟩
      have HB := Aside0.mk ((hq ▸ bits_Has_eq s (m : Int) : QDb.bits_Has.f s (m : Int) = some q))
      have HQ := Aside0.mk hq
      clear hq
      go_upto_region 3 with fail
      refine (wpIn_wide (n := 1)).1 ?_
      cases q with
      | false =>
        gi_wp2
        refine ⟨trivial, (callsIn_wide.2 (QDb.bits_Has.calls s (m : Int) _ _ HB.out)).mono ?_⟩
        rintro e w' ⟨rfl, ⟨nd, rfl⟩⟩
        gi_wp2
        refine ⟨fun f hf => (by cases hf), ?_⟩
        gi_wp2
        go_wp2
        go_roundw
        case rel => exact ⟨m + 1, by go_num, ⟨by have := H1.out; omega, hI.out.2.1, hI.out.2.2.1, by rw [bl_no HQ.out]; exact HJ.out _ wr (wr.drewN nd) none hI.out.2.2.2 (grown_of_below (pw_below_drewN (Below.refl _ _) nd) none) (fun r e => by cases e)⟩⟩
        case measure => simp [intOf]; have := H1.out; omega
      | true =>
        gi_wp2
        refine ⟨trivial, (callsIn_wide.2 (QDb.bits_Has.calls s (m : Int) _ _ HB.out)).mono ?_⟩
        rintro e w' ⟨rfl, ⟨nd, rfl⟩⟩
        obtain ⟨fn, tmps, assign, body, hy, hR⟩ := HY.out (bl s m) (m : Int) (wr.drewN nd) (HJ.out _ wr (wr.drewN nd) none hI.out.2.2.2 (grown_of_below (pw_below_drewN (Below.refl _ _) nd) none) (fun r e => by cases e)) (by have h2 := (bl_pre s (m + 1) (64 - (m + 1))).length_le; rw [show m + 1 + (64 - (m + 1)) = 64 by have := H1.out; omega, bl_yes HQ.out, List.length_append] at h2; simp at h2; omega)
        gi_wp2
        refine hR.mono ?_
        clear hR hy
        rintro e3 W4 (⟨rfl, hJ4, hk4⟩ | ⟨rfl, hJx⟩)
        · have HJ4 := Aside0.mk hJ4
          have HK4 := Aside0.mk hk4
          clear hJ4 hk4
          gi_wp2
          go_wp2
          go_roundw
          case rel => exact ⟨m + 1, by go_num, ⟨by have := H1.out; omega, HK4.out.2 Bn _ 45 (by decide) (by decide) hI.out.2.1, by have h2 := hI.out.2.2.1; have h3 := HK4.out.1.size; simp at h3; omega, by rw [bl_yes HQ.out]; exact HJ4.out⟩⟩
          case measure => simp [intOf]; have := H1.out; omega
        · have HJX := Aside0.mk hJx
          clear hJx
          gi_wp2
          go_wp2
          (try simp only [Exit.inBlock, Exit.then])
          refine bodyPost_ret (results_none rfl _ _ _) rfl ?_
          refine ⟨⟨_, rfl⟩, .inr ⟨_, ?_, HJX.out⟩⟩
          rw [← bl_yes HQ.out]
          have h2 := bl_pre s (m + 1) (64 - (m + 1))
          rwa [show m + 1 + (64 - (m + 1)) = 64 by have := H1.out; omega] at h2
    · have e1 : decide ((m : Int) < 64) = false := decide_eq_false h1
      have hm : m = 64 := by omega
      go_wp2
      go_end0
      have hfin := hI.out.2.2.2
      rw [hm] at hfin
      first | exact ⟨⟨_, rfl⟩, .inl hfin⟩ | exact ⟨⟨_, rfl⟩, .inl ⟨_, rfl, hfin⟩⟩
theorem all_seq (Bn n₀ : Nat) (s : Int) (W : World) (hBn : W.heap[Bn]? = some (.cells #[.int .u64 s] 45 (0, 0))) (hn : n₀ ≤ W.heap.size) :
    SeqStopsK Fence.wide 1 Tryd.prog 125 #[.pointer (some ⟨Bn, 0, none⟩)] (fun x : Int => #[Value.int .i64 x]) (KpG 26 3 n₀) (fun l => l = bl s 64) (fun l => l <+: bl s 64) (bl s 64).length W := by
  intro l J Jx W' hb hJ hJx hY h0
  refine callsIn_wide.2 ?_
  exact all125_in l Bn n₀ s W' (obj_below hb hBn) (Nat.le_trans hn hb.size) J Jx hJ h0 hY
set_option maxRecDepth 100000 in
theorem all_calls (s : Int) (w : World) : Calls Tryd.prog 124 #[.int .u64 s] w fun e w' => e = .returned (.func (.func 125) #[] #[.pointer (some ⟨w.heap.size, 0, none⟩)]) ∧ w' = w.alloc (.cells #[.int .u64 s] 45) := by
  go_enter Tryd.func124, Tryd.ntmps124
  go_wp2
  go_ret
  exact ⟨rfl, rfl⟩
theorem info3' : (Tryd.prog.info? 3).map (fun i => (i.zero, i.size, i.bytes)) = some (some (.int .i64 0), 1, 8) := by kernel_rfl
set_option maxRecDepth 100000 in
set_option maxHeartbeats 2000000 in
theorem bitsList_calls (s : Int) (w : World) : Calls Tryd.prog 118 #[.int .u64 s] w fun e W' => ∃ v, e = .returned v ∧ W'.ownsRow w.heap.size 3 1 v (bl s 64).length ((bl s 64).map (Value.int .i64)) ∧ Below w.heap.size w W' := by
  have hlen := bl_len s 64
  obtain ⟨i0, hi, hz0, hz1, hz2⟩ := info_parts info3'
  refine (callsIn_wide (n := 2)).1 ?_
  refine callsIn_of_wp_marks Tryd.func118 rfl trivial ?_ rfl
  simp only [Tryd.ntmps118, List.size_toArray, List.length_cons, List.length_nil, Nat.reduceAdd, Nat.reduceSub, Array.replicate_succ, Array.replicate_zero, List.push_toArray, List.append_toArray, List.nil_append, List.cons_append]
  gi_wp2
  refine ⟨trivial, (callsIn_wide.2 (all_calls _ _)).mono ?_⟩
  rintro e w2 ⟨rfl, rfl⟩
  gi_wp2
  have bO := Boxed.new w 26 (.slice none 0 0)
  have bN : ((w.alloc (.cells #[.slice none 0 0] 26)).alloc (.cells #[.int .u64 s] 45)).heap[w.heap.size + 1]? = some (.cells #[.int .u64 s] 45 (0, 0)) := by have := World.alloc_heap_new (w.alloc (.cells #[.slice none 0 0] 26)) (.cells #[.int .u64 s] 45); rwa [World.size_alloc] at this
  have hB0 : Below w.heap.size w ((w.alloc (.cells #[.slice none 0 0] 26)).alloc (.cells #[.int .u64 s] 45)) := ((Below.refl _ w).alloc (Nat.le_refl _) _).alloc (by simp) _
  refine wpIn_rangeFunc_ownG (F := Fence.wide) (n := 2) (by rfl) (by decide) (gf := 125) (lb := #[.pointer (some ⟨w.heap.size + 1, 0, none⟩)]) (by rfl) (by trivial) (enters_of Tryd.func125 (by kernel_rfl) rfl)
    (all_seq (w.heap.size + 1) w.heap.size s _ bN (by simp; omega)) KpG_t (KpG_b (by simp; omega)) (Below.refl _ _) (fun _ => rfl)
    (fun (pre : List Int) W => (∃ v, Boxed W w.heap.size 26 v ∧ W.ownsRow w.heap.size 3 1 v pre.length (pre.map (Value.int .i64)) ∧ True) ∧ Below w.heap.size w W)
    (fun _ _ _ => False)
    (OwnFrom.and (Own.from (holdsRow_own w.heap.size w.heap.size 26 3 1 (fun pre : List Int => pre.length) (fun pre : List Int => pre.map (Value.int .i64)) (fun (_ : List Int) _ => True)) _) (ownFrom_below (Nat.le_refl _) (by simp; omega)))
    (fun _ _ _ _ _ hs _ _ => hs)
    ⟨⟨_, bO.alloc _, World.ownsRow_nil _ _ _ _, trivial⟩, hB0⟩
    (fun x => { tmps := #[.int .u64 s, undef, .slice none 0 0, .pointer (some ⟨w.heap.size, 0, none⟩), .int .i64 x, .int .u64 s, .func (.func 125) #[] #[.pointer (some ⟨w.heap.size + 1, 0, none⟩)], .int .i64 x, undef, undef, undef, undef, undef], defers := [] }) ?assign ?body ?done ?stop
  case assign =>
    intro l x W K hK
    gi_wp2
    exact hK
  case body =>
    rintro l pre x W ⟨⟨v, hv, hrow, _⟩, hB⟩ hlt
    have hc := hv.cell
    have hpl : pre.length ≤ 64 := by omega
    gi_wp2_with (gi_at_builtin; refine wpListIn_append_own _ rfl _ _ 26 rfl w.heap.size 3 i0 (.int .i64 0) 1 8 Tryd.underlying26 hi hz0 hz1 hz2 rfl (by decide) _ _ _ rfl (hrow.alloc _) ⟨W.heap.size, 0, none⟩ 1 1 [.int .i64 x] rfl rfl (cell_one_new _ _ _) (by simp [Value.oneCell']) (by unfold maxLen; omega) (by omega) (by have := hB.size; simp; omega) ?_; intro v' w1 hown' hgrow _; obtain ⟨g', cap', rfl⟩ := ownsRow_succ hown'; obtain ⟨hv1, hv2, hr2, hk2, hb2⟩ := hv.appended (by decide) hrow hB.size (Nat.le_refl _) hown' hgrow; have hkp := KpG_app hrow hv (Nat.le_refl _) hown' hgrow; have hc1 := hv1.cell; have hf1 := hv1.frozen)
    exact ⟨hk2.from _, ⟨hb2, hkp⟩, ⟨_, hv2, by simpa using hr2, trivial⟩, hB.trans hb2⟩
  case done =>
    rintro D ys W hD rfl ⟨⟨v, hv, hrow, _⟩, hB⟩ hK
    have hc := hv.cell
    gi_wp2
    refine ⟨by simp, .inl ⟨_, _, rfl, run_takeDeferred hK, ?_⟩⟩
    exact ⟨_, results_tmp rfl _ _ _, v, rfl, ownsRow_putObj hrow _ hK rfl, hB.trans (belowK_b (w := w) (Nat.le_refl _) W D _ _ (by simp at hD; omega) hK rfl rfl)⟩
  case stop =>
    rintro D c pre W _ _ h _
    exact h.elim
/-- The labels of a policy of n rows, as numbers below n. -/
def upF (n : Nat) : List (Fin n) := List.finRange n
theorem upF_len (n : Nat) : (upF n).length = n := by unfold upF; exact List.length_finRange
theorem upF_succ {n m : Nat} (h : m < n) : (upF n).take (m + 1) = (upF n).take m ++ [⟨m, h⟩] := by
  rw [List.take_succ_eq_append_getElem (by rw [upF_len]; exact h)]
  congr 2
  unfold upF
  rw [List.getElem_finRange]
  rfl
set_option maxRecDepth 100000 in
set_option maxHeartbeats 2000000 in
theorem lab123_in (k0 l Bn : Nat) (A : Option Addr) (n c : Nat) (Kp : World → World → Prop) (W : World) (hBn : W.cell? ⟨Bn, 0, none⟩ = some (.slice A n c)) (hn : n ≤ 1000)
    (J Jx : List (Fin n) → World → Prop) (h0 : J [] W)
    (hY : ∀ (pre : List (Fin n)) (x : Fin n) W1, J pre W1 → pre.length < (upF n).length → YieldAt Fence.wide k0 Tryd.prog l #[.int .i64 ((x : Nat) : Int)] W1 fun e W' => (e = .returned (.bool true) ∧ J (pre ++ [x]) W' ∧ Kp W1 W') ∨ (e = .returned (.bool false) ∧ Jx (pre ++ [x]) W')) :
    Calls Tryd.prog 123 #[.func (.yield l) #[] #[], .pointer (some ⟨Bn, 0, none⟩)] W fun e W' => (∃ v, e = .returned v) ∧ ((∃ ys, ys = upF n ∧ J ys W') ∨ (∃ pre, pre <+: upF n ∧ Jx pre W')) := by
  have HY := Aside0.mk hY
  have H0 : Aside0 (0 ≤ n ∧ J ((upF n).take 0) W) := ⟨⟨Nat.zero_le _, h0⟩⟩
  clear hY h0
  go_enter Tryd.func123, Tryd.ntmps123
  go_wp2_with fail
  go_loopw [3, 6] (fun _ i wr => ∃ m : Nat, i = .int .i64 (m : Int) ∧ Aside0 (m ≤ n ∧ J ((upF n).take m) wr)) (fun _ i _ => n - (intOf i).toNat)
  case atStart => exact ⟨0, rfl, H0⟩
  case round =>
    clear H0
    obtain ⟨m, rfl, hI⟩ := hrel
    have hmn : m ≤ n := hI.out.1
    by_cases h1 : (m : Int) < (n : Int)
    · have e1 : decide ((m : Int) < (n : Int)) = true := decide_eq_true h1
      have H1 := Aside0.mk h1
      go_upto_region 3 with fail
      refine (wpIn_wide (n := k0 + 1)).1 ?_
      obtain ⟨fn, tmps, assign, body, hy, hR⟩ := HY.out ((upF n).take m) ⟨m, by have := H1.out; omega⟩ wr hI.out.2 (by rw [List.length_take, upF_len]; have := H1.out; omega)
      gi_wp2
      refine hR.mono ?_
      clear hR hy
      rintro e3 W4 (⟨rfl, hJ4, hk4⟩ | ⟨rfl, hJx⟩)
      · have HJ4 := Aside0.mk hJ4
        clear hJ4 hk4
        gi_wp2
        go_wp2
        go_roundw
        case rel => exact ⟨m + 1, by go_num, ⟨by have := H1.out; omega, by rw [upF_succ (by have := H1.out; omega)]; exact HJ4.out⟩⟩
        case measure => simp [intOf]; have := H1.out; omega
      · have HJX := Aside0.mk hJx
        clear hJx
        gi_wp2
        go_wp2
        (try simp only [Exit.inBlock, Exit.then])
        refine bodyPost_ret (results_none rfl _ _ _) rfl ?_
        refine ⟨⟨_, rfl⟩, .inr ⟨_, ?_, HJX.out⟩⟩
        rw [← upF_succ]
        exact List.take_prefix _ _
    · have e1 : decide ((m : Int) < (n : Int)) = false := decide_eq_false h1
      have hm : m = n := by omega
      go_wp2
      go_end0
      have hfin := hI.out.2
      rw [hm, List.take_of_length_le (by rw [upF_len]; exact Nat.le_refl _)] at hfin
      first | exact ⟨⟨_, rfl⟩, .inl hfin⟩ | exact ⟨⟨_, rfl⟩, .inl ⟨_, rfl, hfin⟩⟩
theorem lab_seq (k0 Bn : Nat) (A : Option Addr) (n c : Nat) (Kp : World → World → Prop) (W : World) (hBn : W.cell? ⟨Bn, 0, none⟩ = some (.slice A n c)) (hn : n ≤ 1000) :
    SeqStopsK Fence.wide (k0 + 1) Tryd.prog 123 #[.pointer (some ⟨Bn, 0, none⟩)] (fun x : Fin n => #[Value.int .i64 ((x : Nat) : Int)]) Kp (fun l => l = upF n) (fun l => l <+: upF n) (upF n).length W := by
  intro l J Jx W' hb hJ hJx hY h0
  refine callsIn_wide.2 ?_
  exact lab123_in k0 l Bn A n c Kp W' (pw_cell_below hb hBn) hn J Jx h0 hY
set_option maxRecDepth 100000 in
theorem labels_calls (A : Option Addr) (n c : Nat) (w : World) : Calls Tryd.prog 117 #[.slice A n c] w fun e w' => e = .returned (.func (.func 123) #[] #[.pointer (some ⟨w.heap.size, 0, none⟩)]) ∧ w' = w.alloc (.cells #[.slice A n c] 157) := by
  go_enter Tryd.func117, Tryd.ntmps117
  go_wp2
  go_ret
  exact ⟨rfl, rfl⟩
end Go.Proofs.YtoliipbmcekciaaDoor.QDd

namespace Go.Proofs.YtoliipbmcekciaaDoor.QDd
open Go
set_option linter.unusedVariables false
section
variable {F : Fence} {n : Nat} {P : Program} {ops : Array Oper} {Q : Exit → Act → World → Prop} {md : Region.Mode} {S : World → Prop}
/-- No operation of the region is a defer statement. -/
def noDefer (ops : Array Oper) : Bool := ops.all fun o => match o.op with | .defer _ => false | _ => true
theorem noDefer_at (h : noDefer ops = true) {i : Nat} {o : Oper} (ho : ops[i]? = some o) : ∀ c, o.op ≠ .defer c := by
  intro c hc
  obtain ⟨hi, hoi⟩ := Array.getElem?_eq_some_iff.1 ho
  have := (Array.all_eq_true.1 h) i hi
  rw [hoi, hc] at this
  cases this
theorem opIn_round (l : Nat) (hro : F.round = none) (hd : noDefer ops = true) {i : Nat} {K : Act → World → Prop} {a : Act} {w : World} (h : wpOpIn F n P ops Q i K a w) : wpOpIn (F.inRound l) n P ops Q i K a w := by
  unfold wpOpIn at *
  cases ho : ops[i]? with
  | none => rw [ho] at h; exact h
  | some o =>
    rw [ho] at h
    dsimp only at h ⊢
    split
    · rename_i hw
      rw [if_pos hw] at h
      unfold Oper.wpIn at *
      rw [Oper.semAt_eq _ _ _ (noDefer_at hd ho)] at h ⊢
      generalize (execOp a.eval o).run P w = r at h ⊢
      cases r with
      | ok x w' => cases x <;> exact h
      | halt x w' => cases x <;> exact h
    · rename_i hw
      rw [if_neg hw] at h
      exact h
/-- What is walked outside of a round serves in a round. -/
theorem anyIn_round (l : Nat) (hro : F.round = none) (hd : noDefer ops = true) : ∀ (fuel : Nat) (listed : Array Bool) (a : Act) (w : World), wpAnyIn F n P md ops Q fuel listed a w → wpAnyIn (F.inRound l) n P md ops Q fuel listed a w
  | 0, _, _, _, h => h
  | fuel + 1, _, _, _, h => ⟨h.1, fun i hi => wpOpIn_mono (fun a' w' h' => anyIn_round l hro hd fuel _ a' w' h') (opIn_round l hro hd (h.2 i hi))⟩
/-- It yields in every world of S, and calls nothing. -/
def YieldsS (P : Program) (ops : Array Oper) (S : World → Prop) (o : Oper) (v : Value) (a : Act) : Prop := YieldsIf P ops S o v a ∧ ∀ w, o.about P w a.eval = none
theorem YieldsS.run {i : Nat} {o : Oper} {v : Value} {a : Act} (hro : F.round = none) (hi : ops[i]? = some o) (hy : YieldsS P ops S o v a) {K : Act → World → Prop} {w : World} (hS : S w) (h : K (a.put o.dst v) w) : wpOpIn F n P ops Q i K a w := by
  have hab : ∀ f, o.about P w a.eval = some f → F.fn f := fun f hf => by rw [hy.2 w] at hf; cases hf
  unfold wpOpIn
  rw [hi]
  dsimp only
  rcases hy.1 with ⟨hw, hv⟩ | ⟨hw, rfl⟩
  · rw [if_pos hw]
    refine ⟨hab, ?_⟩
    rw [hro, Oper.semAt_none, hv w hS]
    exact h
  · rw [hw, if_neg (by decide)]
    exact ⟨hab, h⟩
theorem YieldsS.same {o : Oper} {v : Value} {a a' : Act} (hy : YieldsS P ops S o v a) (he : execOp a'.eval o = execOp a.eval o) (hw : Region.wanted o (yielded ops a'.tmps) = Region.wanted o (yielded ops a.tmps)) (hb : ∀ w, o.about P w a'.eval = o.about P w a.eval) : YieldsS P ops S o v a' :=
  ⟨hy.1.of_same he hw, fun w => by rw [hb w]; exact hy.2 w⟩
theorem opIn_putS {j : Nat} {oi oj : Oper} {v : Value} (hro : F.round = none) (hj : ops[j]? = some oj) (hap : oi.apart ops oj = true) (hsi : ∀ cs b, oi.op ≠ .select cs b) (hsj : ∀ cs b, oj.op ≠ .select cs b)
    (hQ : ∀ c a w, Q (.panic c) (a.put oi.dst v) w → Q (.panic c) a w) {K : Act → World → Prop} {a : Act} {w : World} (hy : YieldsS P ops S oi v a) (h : wpOpIn F n P ops Q j K (a.put oi.dst v) w) :
    wpOpIn F n P ops Q j (fun a' w' => YieldsS P ops S oi v a' ∧ K (a'.put oi.dst v) w') a w := by
  obtain ⟨h1, h2, h3⟩ := Oper.apart_spec hap
  have stay : ∀ b : Act, YieldsS P ops S oi v b → ∀ u, YieldsS P ops S oi v (b.put oj.dst u) := fun b hb u => hb.same (execOp_put oi hsi b oj.dst u h3) (wanted_put oi b oj.dst u h3) (fun w => about_put oi w b oj.dst u h3)
  have stayD : ∀ d, YieldsS P ops S oi v { a with defers := d :: a.defers } := fun d => hy.same rfl rfl (fun _ => rfl)
  unfold wpOpIn at *
  rw [hj] at h ⊢
  dsimp only at h ⊢
  rw [wanted_put oj a oi.dst v h1, about_put oj w a oi.dst v h1] at h
  by_cases hw : Region.wanted oj (yielded ops a.tmps) = true
  · rw [if_pos hw] at h ⊢
    unfold Oper.wpIn at *
    rw [about_put oj w a oi.dst v h1, hro, Oper.semAt_none, execOp_put oj hsj a oi.dst v h1] at h
    rw [hro, Oper.semAt_none]
    refine ⟨h.1, ?_⟩
    have h := h.2
    generalize (execOp a.eval oj).run P w = r at h ⊢
    cases r with
    | ok x w' =>
      cases x <;> simp only [Oper.uponIn] at h ⊢
      case value u => exact ⟨stay a hy u, by rw [← Act.put_comm a v u h2]; exact h⟩
      case skip => exact ⟨stay a hy _, by rw [← Act.put_comm a v undef h2]; exact h⟩
      case defer d => exact ⟨stay _ (stayD d) _, by rw [← Act.put_comm _ v undef h2, ← Act.put_defers]; exact h⟩
      case enter f args =>
        refine ⟨h.1, CallsIn.mono h.2 fun e w'' he => ?_⟩
        cases e with
        | returned u => exact ⟨stay a hy u, by rw [← Act.put_comm a v u h2]; exact he⟩
        | panicked c => exact hQ _ _ _ he
        | outgrown => exact he
      case row row args => exact ⟨h.1, RowsIn.mono h.2 fun u w'' he => ⟨stay a hy u, by rw [← Act.put_comm a v u h2]; exact he⟩⟩
      case round l f tmps assign body =>
        refine ⟨h.1, RoundIn.mono h.2 fun e w'' he => ?_⟩
        cases e with
        | returned u => exact ⟨stay a hy u, by rw [← Act.put_comm a v u h2]; exact he⟩
        | panicked c => exact hQ _ _ _ he
        | outgrown => exact he
    | halt x w' =>
      cases x <;> simp only [Oper.uponIn] at h ⊢
      case panic u => exact hQ _ _ _ h
  · rw [if_neg hw] at h ⊢
    exact ⟨h.1, stay a hy _, by rw [← Act.put_comm a v undef h2]; exact h.2⟩
/-- Whatever order is drawn, and S holds behind each operation. -/
def anyInS (F : Fence) (n : Nat) (P : Program) (md : Region.Mode) (ops : Array Oper) (Q : Exit → Act → World → Prop) (S : World → Prop) : Nat → Array Bool → Act → World → Prop
  | 0, listed, a, w => Region.ready md ops listed = [] ∧ Q .normal a w
  | fuel + 1, listed, a, w => (Region.ready md ops listed = [] → Q .normal a w) ∧ ∀ i ∈ Region.ready md ops listed, wpOpIn F n P ops Q i (fun a' w' => S w' ∧ anyInS F n P md ops Q S fuel (listed.setIfInBounds i true) a' w') a w
theorem any_of_S : ∀ (fuel : Nat) (listed : Array Bool) (a : Act) (w : World), anyInS F n P md ops Q S fuel listed a w → wpAnyIn F n P md ops Q fuel listed a w
  | 0, _, _, _, h => h
  | fuel + 1, _, _, _, h => ⟨h.1, fun i hi => wpOpIn_mono (fun a' w' h' => any_of_S fuel _ a' w' h'.2) (h.2 i hi)⟩
theorem anyInS_first {i : Nat} {oi : Oper} {v : Value} (hro : F.round = none) (hi : ops[i]? = some oi) (hsel : ∀ (j : Nat) (o : Oper) cs b, ops[j]? = some o → o.op ≠ .select cs b) (hQ : ∀ c a w, Q (.panic c) (a.put oi.dst v) w → Q (.panic c) a w) :
    ∀ (fuel : Nat) (listed : Array Bool) (a : Act) (w : World), (∀ j oj, ops[j]? = some oj → j ≠ i → listed.getD j true = false → (∀ e ∈ oj.after, Region.binds md e = true → e.on ≠ i) → oi.apart ops oj = true) →
      i ∈ Region.ready md ops listed → YieldsS P ops S oi v a → S w → anyInS F n P md ops Q S fuel (listed.setIfInBounds i true) (a.put oi.dst v) w → anyInS F n P md ops Q S (fuel + 1) listed a w := by
  intro fuel
  induction fuel with
  | zero =>
    intro listed a w _ hr hy hS H
    refine ⟨fun h => (by rw [h] at hr; cases hr), fun j hj => ?_⟩
    by_cases hji : j = i
    · subst hji; exact hy.run hro hi hS ⟨hS, H⟩
    · have := ready_mono hj hji
      rw [H.1] at this
      cases this
  | succ fuel ih =>
    intro listed a w hfree hr hy hS H
    refine ⟨fun h => (by rw [h] at hr; cases hr), fun j hj => ?_⟩
    by_cases hji : j = i
    · subst hji; exact hy.run hro hi hS ⟨hS, H⟩
    · have h1 := H.2 j (ready_mono hj hji)
      obtain ⟨hjun, oj, hoj, hall⟩ := mem_ready.1 hj
      have hnot : ∀ e ∈ oj.after, Region.binds md e = true → e.on ≠ i := fun e he hb heq => by
        have g1 := hall e he hb
        have g0 := (mem_ready.1 hr).1
        rw [heq] at g1
        rcases Nat.lt_or_ge i listed.size with h' | h'
        · simp [h'] at g0 g1; rw [g0] at g1; cases g1
        · simp [Array.getElem?_eq_none h'] at g1
      have h2 := opIn_putS hro hoj (hfree j oj hoj hji hjun hnot) (fun cs b => hsel i oi cs b hi) (fun cs b => hsel j oj cs b hoj) hQ hy h1
      have hfree' : ∀ k ok, ops[k]? = some ok → k ≠ i → (listed.setIfInBounds j true).getD k true = false → (∀ e ∈ ok.after, Region.binds md e = true → e.on ≠ i) → oi.apart ops ok = true := fun k ok hk hki hun hno => by
        refine hfree k ok hk hki ?_ hno
        by_cases hjk : j = k
        · subst hjk; exact hjun
        · rw [getD_set_ne true hjk] at hun; exact hun
      refine wpOpIn_mono (fun a' w' h3 => ⟨h3.2.1, ih (listed.setIfInBounds j true) a' w' hfree' (ready_mono hr (Ne.symm hji)) h3.1 h3.2.1 ?_⟩) h2
      rw [Array.setIfInBounds_comm _ _ hji]
      exact h3.2.2
/-- Take operation i first. -/
theorem takeS {i : Nat} {oi : Oper} {v : Value} {fuel : Nat} {listed : Array Bool} {a : Act} {w : World} (d : Nat) (hro : F.round = none) (hi : ops[i]? = some oi) (hd : oi.dst = some d) (hs : Region.noSelect ops = true) (hf : Region.free md ops listed i = true) (hr : (Region.ready md ops listed).contains i = true)
    (hQ : ∀ c a w, Q (.panic c) (a.put (some d) v) w → Q (.panic c) a w) (hab : ∀ w, oi.about P w a.eval = none) (hy : YieldsIf P ops S oi v a) (hS : S w)
    (h : anyInS F n P md ops Q S fuel (listed.setIfInBounds i true) (a.put (some d) v) w) : anyInS F n P md ops Q S (fuel + 1) listed a w :=
  anyInS_first hro hi (Region.noSelect_spec hs) (by rw [hd]; exact hQ) fuel listed a w (Region.free_spec hi hf) (by simpa using hr) ⟨hy, hab⟩ hS (by rw [hd]; exact h)
/-- One operation alone may come up. -/
theorem oneS {i : Nat} {o : Oper} {fuel : Nat} {listed : Array Bool} {a : Act} {w : World} (hr : Region.ready md ops listed = [i]) (ho : ops[i]? = some o)
    (h : ∀ K' : Act → World → Prop, (∀ a w, S w → anyInS F n P md ops Q S fuel (listed.setIfInBounds i true) a w → K' a w) → if Region.wanted o (yielded ops a.tmps) = true then Oper.wpIn F n P o a w K' Q else (∀ f, o.about P w a.eval = some f → F.fn f) ∧ K' (a.put o.dst undef) w) : anyInS F n P md ops Q S (fuel + 1) listed a w :=
  ⟨(fun h0 => by rw [hr] at h0; cases h0), fun j hj => by
    rw [hr] at hj
    obtain rfl := List.mem_singleton.1 hj
    exact wpOpIn_step ho (fun K' hK => h K' (fun a w hS hA => hK a w ⟨hS, hA⟩))⟩
theorem doneS {listed : Array Bool} {a : Act} {w : World} (hr : Region.ready md ops listed = []) (h : Q .normal a w) : ∀ fuel, anyInS F n P md ops Q S fuel listed a w
  | 0 => ⟨hr, h⟩
  | _ + 1 => ⟨fun _ => h, fun i hi => by rw [hr] at hi; cases hi⟩
/-- The beginning, in a round. -/
theorem region_roundS {id l : Nat} {a : Act} {w : World} (S : World → Prop) (hro : F.round = none) (hm : P.follows .mixedOrders = true) (hd : noDefer ops = true)
    (h : anyInS F n P .any ops Q S ops.size (Array.replicate ops.size false) a w.drew) : (Code.region id ops true).wpIn (F.inRound l) n P Q a w :=
  wpIn_region_any hm (anyIn_round l hro hd _ _ _ _ (any_of_S _ _ _ _ h))
end
end Go.Proofs.YtoliipbmcekciaaDoor.QDd

