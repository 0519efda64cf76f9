/- Decode: the document's check of flows, as a plain function; what it gives. -/
import Derived.Test.YtoliipbmcekciaaDoorRBDe
import Derived.Test.YtoliipbmcekciaaDoorQDdr
import Derived.Laws.BitsLemmas
namespace Go.Proofs.YtoliipbmcekciaaDoor.QDd
open Go.RowKit Go.Proofs.YtoliipbmcekciaaDoorW.PrintWords Go.Proofs.YtoliipbmcekciaaDoorW.PrintLast Go.Proofs.YtoliipbmcekciaaDoorW.PrintMore
set_option linter.unusedVariables false
set_option linter.unusedSimpArgs false
/-- The members of a set below a number, rising. -/
def bl (s : Int) : Nat → List Int
  | 0 => []
  | m + 1 => if hasBit s (m : Int) = true then bl s m ++ [(m : Int)] else bl s m
theorem bl_len (s : Int) : ∀ m, (bl s m).length ≤ m
  | 0 => Nat.le_refl _
  | m + 1 => by
    have := bl_len s m
    unfold bl
    split
    · rw [List.length_append]; simp; omega
    · omega
theorem bl_last (s : Int) (n : Int) : ∀ m, 0 < (bl s m).length → (rd (bl s m) (((bl s m).length : Int) - 1) ≥ n ↔ (bl s m).any (fun x => decide (n ≤ x)) = true) ∧ ∀ x ∈ bl s m, x < (m : Int)
  | 0, h => absurd h (show ¬ 0 < ([] : List Int).length by decide)
  | m + 1, h => by
    unfold bl at h ⊢
    split at h
    · rename_i hb
      rw [if_pos hb]
      have hall : ∀ x ∈ bl s m, x < (m : Int) := by
        by_cases h0 : 0 < (bl s m).length
        · exact (bl_last s n m h0).2
        · intro x hx
          have : bl s m = [] := List.length_eq_zero_iff.1 (by omega)
          rw [this] at hx
          exact absurd hx (by simp)
      constructor
      · have e : rd (bl s m ++ [(m : Int)]) (((bl s m ++ [(m : Int)]).length : Int) - 1) = (m : Int) := by
          unfold rd
          rw [List.length_append]
          have : (((bl s m).length + [(m : Int)].length : Nat) : Int) - 1 = ((bl s m).length : Int) := by simp
          rw [this, Int.toNat_natCast, List.getD_eq_getElem?_getD, List.getElem?_append_right (Nat.le_refl _), Nat.sub_self]
          rfl
        rw [e, List.any_append]
        constructor
        · intro hm
          rw [show [(m : Int)].any (fun x => decide (n ≤ x)) = true by simpa using hm, Bool.or_true]
        · intro ho
          rcases Bool.or_eq_true_iff.1 ho with h1 | h1
          · obtain ⟨x, hx, hn⟩ := List.any_eq_true.1 h1
            have := hall x hx
            have := of_decide_eq_true hn
            omega
          · simpa using h1
      · intro x hx
        rcases List.mem_append.1 hx with h1 | h1
        · have := hall x h1; omega
        · simp at h1; omega
    · rename_i hb
      rw [if_neg hb]
      obtain ⟨a, b⟩ := bl_last s n m h
      exact ⟨a, fun x hx => by have := b x hx; omega⟩
theorem List_l0 {s : Int} (hs : U64 s) : ∀ (d m k : Nat), 64 - m = d → 66 + d < k → m ≤ 64 → rampartref01_List.l0 k s (bl s m) (m : Int) = some (bl s 64)
  | 0, m, k, h1, h2, h3 => by
    obtain ⟨k, rfl⟩ : ∃ j, k = j + 1 := ⟨k - 1, by omega⟩
    obtain rfl : m = 64 := by omega
    rw [rampartref01_List.l0, if_neg (by omega)]
  | d + 1, m, k, h1, h2, h3 => by
    obtain ⟨k, rfl⟩ : ∃ j, k = j + 1 := ⟨k - 1, by omega⟩
    have hlen := bl_len s m
    rw [rampartref01_List.l0, if_pos (by omega), R01Has_eq hs (m : Int) k (by omega)]
    simp only [Option.bind_some]
    have e : wrap64 ((m : Int) + 1) = ((m + 1 : Nat) : Int) := by unfold wrap64; omega
    cases hb : hasBit s (m : Int) with
    | true =>
      rw [if_pos rfl, if_pos (by omega), e]
      have := List_l0 hs d (m + 1) k (by omega) (by omega) (by omega)
      rw [show bl s (m + 1) = bl s m ++ [(m : Int)] by rw [bl, if_pos hb]] at this
      exact this
    | false =>
      rw [if_neg (by decide), e]
      have := List_l0 hs d (m + 1) k (by omega) (by omega) (by omega)
      rw [show bl s (m + 1) = bl s m by rw [bl, if_neg (by rw [hb]; decide)]] at this
      exact this
theorem RList_eq {s : Int} (hs : U64 s) (k : Nat) (hk : 140 ≤ k) : rampartref01_List.f k s = some (bl s 64) := List_l0 hs 64 0 k (by omega) (by omega) (by omega)
def rowBad (l : List Int) (i : Nat) : Bool := (bl (rd l (i : Int)) 64).any (fun x => decide ((l.length : Int) ≤ x))
def r01F (l : List Int) : Int := if l.length > 64 then 3 else sndOf (scan (fun i => if rowBad l i = true then 10 else 0) 0 l.length)
theorem rd_u64 {l : List Int} (h : ∀ x ∈ l, U64 x) {i : Nat} (hi : i < l.length) : U64 (rd l (i : Int)) := by
  unfold rd
  rw [Int.toNat_natCast, List.getD_eq_getElem?_getD, List.getElem?_eq_getElem hi]
  exact h _ (List.getElem_mem hi)
theorem R01_l0 {l : List Int} (h : ∀ x ∈ l, U64 x) (hl : l.length ≤ 64) : ∀ (d m k : Nat), l.length - m = d → 150 + d < k → m ≤ l.length → (∀ j, j < m → rowBad l j = false) → rampartref01_Check.l0 k l (m : Int) = some (sndOf (scan (fun i => if rowBad l i = true then 10 else 0) 0 l.length))
  | 0, m, k, h1, h2, h3, hj => by
    obtain ⟨k, rfl⟩ : ∃ j, k = j + 1 := ⟨k - 1, by omega⟩
    rw [rampartref01_Check.l0, if_neg (by omega), snd_none (fun j hlt => by rw [hj j (by omega)]; rfl)]
  | d + 1, m, k, h1, h2, h3, hj => by
    obtain ⟨k, rfl⟩ : ∃ j, k = j + 1 := ⟨k - 1, by omega⟩
    rw [rampartref01_Check.l0, if_pos (by omega), if_pos (by omega), RList_eq (rd_u64 h (by omega)) k (by omega)]
    simp only [Option.bind_some]
    have e : wrap64 ((m : Int) + 1) = ((m + 1 : Nat) : Int) := by unfold wrap64; omega
    have hlen := bl_len (rd l (m : Int)) 64
    have go : rowBad l m = false → rampartref01_Check.l0 k l (wrap64 ((m : Int) + 1)) = some (sndOf (scan (fun i => if rowBad l i = true then 10 else 0) 0 l.length)) := by
      intro hb
      rw [e]
      exact R01_l0 h hl d (m + 1) k (by omega) (by omega) (by omega) (fun j hlt => by
        by_cases ej : j = m
        · subst ej; exact hb
        · exact hj j (by omega))
    by_cases h0 : 0 < (bl (rd l (m : Int)) 64).length
    · have ew : wrap64 (((bl (rd l (m : Int)) 64).length : Int) - 1) = ((bl (rd l (m : Int)) 64).length : Int) - 1 := by unfold wrap64; omega
      rw [if_pos (by omega), ew, if_pos (by omega), if_pos (by omega)]
      have hl2 := (bl_last (rd l (m : Int)) (l.length : Int) 64 h0).1
      by_cases hg : rd (bl (rd l (m : Int)) 64) (((bl (rd l (m : Int)) 64).length : Int) - 1) ≥ (l.length : Int)
      · have hb : rowBad l m = true := hl2.1 hg
        rw [if_pos hg, snd_hit (i := m) (by rw [hb, if_pos rfl]; decide) (by omega) (fun j hlt => by rw [hj j hlt]; rfl), hb, if_pos rfl]
      · rw [if_neg hg]
        refine go ?_
        cases hb : rowBad l m with
        | false => rfl
        | true => exact absurd (hl2.2 hb) hg
    · rw [if_neg (by omega)]
      refine go ?_
      have : bl (rd l (m : Int)) 64 = [] := List.length_eq_zero_iff.1 (by omega)
      unfold rowBad
      rw [this]
      rfl
theorem R01_eq {l : List Int} (h : ∀ x ∈ l, U64 x) (k : Nat) (hk : 300 ≤ k) : rampartref01_Check.f k l = some (r01F l) := by
  unfold rampartref01_Check.f r01F
  by_cases h1 : l.length > 64
  · rw [if_pos (by omega), if_pos h1]
  · rw [if_neg (by omega), if_neg h1]
    exact R01_l0 h (by omega) l.length 0 k (by omega) (by omega) (by omega) (fun j hj => absurd hj (by omega))
def polQ (l : List Int) (a b : Nat) : Bool := hasBit (rd l (a : Int)) (b : Int) && (bits .andNot .u64 (rd l (b : Int)) (rd l (a : Int)) != 0)
def polE (l : List Int) (a : Nat) : Int := if hasBit (rd l (a : Int)) (a : Int) = false then 20 else if anyTo (polQ l a) l.length = true then 20 else 0
def r02F (l : List Int) : Int := if l.length > 16 then 3 else if l.length = 0 then 1 else if r01F l = 0 then sndOf (scan (polE l) 0 l.length) else r01F l
theorem R02_l1 {l : List Int} (h : ∀ x ∈ l, U64 x) (hl : l.length ≤ 16) {a : Nat} (ha : a < l.length) : ∀ (d b k : Nat), l.length - b = d → 70 < k → b ≤ l.length → (∀ j, j < b → polQ l a j = false) → rampartref02_Check.l1 (k + (d + 1)) l (a : Int) (b : Int) = if anyTo (polQ l a) l.length = true then some 20 else rampartref02_Check.l0 k l ((a + 1 : Nat) : Int)
  | 0, b, k, h1, h2, h3, hj => by
    have e : wrap64 ((a : Int) + 1) = ((a + 1 : Nat) : Int) := by unfold wrap64; omega
    rw [rampartref02_Check.l1, if_neg (by omega), anyTo_none _ (fun j hlt => hj j (by omega)), if_neg (by decide), e, Nat.add_zero]
  | d + 1, b, k, h1, h2, h3, hj => by
    have e : wrap64 ((b : Int) + 1) = ((b + 1 : Nat) : Int) := by unfold wrap64; omega
    rw [show k + (d + 1 + 1) = (k + (d + 1)) + 1 by omega, rampartref02_Check.l1, if_pos (by omega), if_pos (by omega), if_pos (by omega), R01Has_eq (rd_u64 h ha) (b : Int) _ (by omega)]
    simp only [Option.bind_some]
    have go : polQ l a b = false → rampartref02_Check.l1 (k + (d + 1)) l (a : Int) (wrap64 ((b : Int) + 1)) = if anyTo (polQ l a) l.length = true then some 20 else rampartref02_Check.l0 k l ((a + 1 : Nat) : Int) := by
      intro hb
      rw [e]
      exact R02_l1 h hl ha d (b + 1) k (by omega) h2 (by omega) (fun j hlt => by
        by_cases ej : j = b
        · subst ej; exact hb
        · exact hj j (by omega))
    cases hb : hasBit (rd l (a : Int)) (b : Int) with
    | false =>
      rw [if_neg (by decide)]
      exact go (by unfold polQ; rw [hb]; rfl)
    | true =>
      rw [if_pos rfl, if_pos (by omega)]
      by_cases hz : bits .andNot .u64 (rd l (b : Int)) (rd l (a : Int)) = 0
      · rw [if_pos hz]
        exact go (by unfold polQ; rw [hb, hz]; rfl)
      · rw [if_neg hz, if_pos (anyTo_hit (k := b) (by unfold polQ; rw [hb, Bool.true_and]; simpa using hz) _ (by omega))]
theorem R02_l0 {l : List Int} (h : ∀ x ∈ l, U64 x) (hl : l.length ≤ 16) : ∀ (d a k : Nat), l.length - a = d → 100 + 20 * d < k → a ≤ l.length → (∀ j, j < a → polE l j = 0) → rampartref02_Check.l0 k l (a : Int) = some (sndOf (scan (polE l) 0 l.length))
  | 0, a, k, h1, h2, h3, hj => by
    obtain ⟨k, rfl⟩ : ∃ j, k = j + 1 := ⟨k - 1, by omega⟩
    rw [rampartref02_Check.l0, if_neg (by omega), snd_none (fun j hlt => hj j (by omega))]
  | d + 1, a, k, h1, h2, h3, hj => by
    obtain ⟨k, rfl⟩ : ∃ j, k = j + 1 := ⟨k - 1, by omega⟩
    rw [rampartref02_Check.l0, if_pos (by omega), if_pos (by omega), R01Has_eq (rd_u64 h (by omega)) (a : Int) _ (by omega)]
    simp only [Option.bind_some]
    cases hb : hasBit (rd l (a : Int)) (a : Int) with
    | false =>
      have he : polE l a = 20 := by unfold polE; rw [hb, if_pos rfl]
      rw [if_neg (by decide), snd_hit (i := a) (by rw [he]; decide) (by omega) hj, he]
    | true =>
      rw [if_pos rfl]
      obtain ⟨k', rfl⟩ : ∃ j, k = j + (l.length + 1) := ⟨k - (l.length + 1), by omega⟩
      have h9 := R02_l1 h hl (a := a) (by omega) l.length 0 k' (by omega) (by omega) (by omega) (fun j hlt => absurd hlt (by omega))
      rw [show ((0 : Nat) : Int) = 0 from rfl] at h9
      rw [h9]
      cases hq : anyTo (polQ l a) l.length with
      | true =>
        have he : polE l a = 20 := by unfold polE; rw [hb, if_neg (by decide), if_pos hq]
        rw [if_pos rfl, snd_hit (i := a) (by rw [he]; decide) (by omega) hj, he]
      | false =>
        have he : polE l a = 0 := by unfold polE; rw [hb, if_neg (by decide), hq, if_neg (by decide)]
        rw [if_neg (by decide)]
        exact R02_l0 h hl d (a + 1) k' (by omega) (by omega) (by omega) (fun j hlt => by
          by_cases ej : j = a
          · subst ej; exact he
          · exact hj j (by omega))
theorem R02_eq {l : List Int} (h : ∀ x ∈ l, U64 x) : rampartref02_Check.f 1000 l = some (r02F l) := by
  unfold rampartref02_Check.f rampartref02_shape.f r02F
  by_cases h1 : l.length > 16
  · rw [if_pos (by omega), if_pos h1]; rfl
  · rw [if_neg (by omega), if_neg h1]
    by_cases h0 : l.length = 0
    · rw [if_pos (by omega), if_pos h0]; rfl
    · rw [if_neg (by omega), if_neg h0, R01_eq h 1000 (by omega)]
      simp only [Option.bind_some]
      by_cases hz : r01F l = 0
      · rw [if_pos hz, if_pos hz]
        exact R02_l0 h (by omega) l.length 0 1000 (by omega) (by omega) (by omega) (fun j hj => absurd hj (by omega))
      · rw [if_neg hz, if_neg hz]
theorem scan_zero {f : Nat → Int} : ∀ (d m : Nat), sndOf (scan f m d) = 0 → ∀ j, m ≤ j → j < m + d → f j = 0
  | 0, m, _, j, h1, h2 => absurd h2 (by omega)
  | d + 1, m, h, j, h1, h2 => by
    unfold scan at h
    by_cases e : f m = 0
    · rw [if_pos e] at h
      by_cases ej : j = m
      · subst ej; exact e
      · exact scan_zero d (m + 1) h j (by omega) (by omega)
    · rw [if_neg e] at h
      exact absurd h e
theorem anyTo_false {p : Nat → Bool} : ∀ n, anyTo p n = false → ∀ k, k < n → p k = false
  | 0, _, k, h => absurd h (by omega)
  | n + 1, h, k, hk => by
    unfold anyTo at h
    rw [Bool.or_eq_false_iff] at h
    by_cases e : k = n
    · subst e; exact h.2
    · exact anyTo_false n h.1 k (by omega)
theorem bits_andNot_u64_nat (a b : Nat) (ha : a < 18446744073709551616) (hb : b < 18446744073709551616) (h : bits .andNot .u64 (a : Int) (b : Int) = 0) (i : Nat) (hi : a.testBit i = true) : b.testBit i = true := by
  have hi64 : i < 64 := by
    apply Classical.byContradiction
    intro hn
    have : a < 2 ^ i := Nat.lt_of_lt_of_le (show a < 2 ^ 64 by omega) (Nat.pow_le_pow_right (by decide) (by omega))
    rw [Nat.testBit_lt_two_pow this] at hi
    exact absurd hi (by decide)
  have h' : IntKind.u64.wrap ((BitVec.ofInt 64 (a : Int) &&& ~~~(BitVec.ofInt 64 (b : Int))).toNat : Int) = 0 := h
  rw [IntKind.wrap_u64] at h'
  have hlt := (BitVec.ofInt 64 (a : Int) &&& ~~~(BitVec.ofInt 64 (b : Int))).isLt
  have h0 : (BitVec.ofInt 64 (a : Int) &&& ~~~(BitVec.ofInt 64 (b : Int))).toNat = 0 := by omega
  have hz : BitVec.ofInt 64 (a : Int) &&& ~~~(BitVec.ofInt 64 (b : Int)) = 0#64 := BitVec.eq_of_toNat_eq (by rw [h0]; rfl)
  have hg := congrArg (fun v => v.getLsbD i) hz
  simp only [BitVec.getLsbD_and, BitVec.getLsbD_not, BitVec.getLsbD_zero, hi64, decide_true, Bool.true_and, BitVec.ofInt_natCast, BitVec.getLsbD_ofNat, hi] at hg
  cases hbb : b.testBit i with
  | true => rfl
  | false => rw [hbb] at hg; simp at hg
theorem hasBit_in {s c : Int} (h : hasBit s c = true) : 0 ≤ c ∧ c < 64 := by
  unfold hasBit at h
  split at h
  · assumption
  · exact absurd h (by decide)
theorem r02_pol {l : List Int} (hz : r02F l = 0) {a : Nat} (ha : a < l.length) : polE l a = 0 ∧ l.length ≤ 16 := by
  unfold r02F at hz
  by_cases h1 : l.length > 16
  · rw [if_pos h1] at hz; exact absurd hz (by decide)
  rw [if_neg h1] at hz
  by_cases h0 : l.length = 0
  · omega
  rw [if_neg h0] at hz
  by_cases h3 : r01F l = 0
  · rw [if_pos h3] at hz
    exact ⟨scan_zero _ _ hz a (Nat.zero_le _) (by omega), by omega⟩
  · rw [if_neg h3] at hz; exact absurd hz h3
/-- Flows that were checked are transitive. -/
theorem r02_trans {l : List Int} (h : ∀ x ∈ l, U64 x) (hz : r02F l = 0) {a b : Nat} {c : Int} (ha : a < l.length) (hb : b < l.length) (h1 : hasBit (rd l (a : Int)) (b : Int) = true) (h2 : hasBit (rd l (b : Int)) c = true) : hasBit (rd l (a : Int)) c = true := by
  obtain ⟨hp, hl⟩ := r02_pol hz ha
  unfold polE at hp
  cases hs : hasBit (rd l (a : Int)) (a : Int) with
  | false => rw [hs, if_pos rfl] at hp; exact absurd hp (by decide)
  | true =>
    rw [hs, if_neg (by decide)] at hp
    cases hq : anyTo (polQ l a) l.length with
    | true => rw [hq, if_pos rfl] at hp; exact absurd hp (by decide)
    | false =>
      have hb2 := anyTo_false _ hq b hb
      unfold polQ at hb2
      rw [h1, Bool.true_and] at hb2
      have hand : bits .andNot .u64 (rd l (b : Int)) (rd l (a : Int)) = 0 := by simpa using hb2
      obtain ⟨c0, c1⟩ := hasBit_in h2
      obtain ⟨j, rfl⟩ := Int.eq_ofNat_of_zero_le c0
      have ua := rd_u64 h ha
      have ub := rd_u64 h hb
      obtain ⟨x, hx⟩ := Int.eq_ofNat_of_zero_le ua.1
      obtain ⟨y, hy⟩ := Int.eq_ofNat_of_zero_le ub.1
      rw [hx] at hand ua ⊢
      rw [hy] at hand ub h2
      rw [hasBit_nat y j (by have := ub.2; omega) (by omega)] at h2
      rw [hasBit_nat x j (by have := ua.2; omega) (by omega)]
      exact bits_andNot_u64_nat y x (by have := ub.2; omega) (by have := ua.2; omega) hand j h2
end Go.Proofs.YtoliipbmcekciaaDoor.QDd
namespace Go.Proofs.YtoliipbmcekciaaDoor.QDd
open Go.RowKit Go.Proofs.YtoliipbmcekciaaDoorW.PrintWords Go.Proofs.YtoliipbmcekciaaDoorW.PrintLast Go.Proofs.YtoliipbmcekciaaDoorW.PrintMore
open Go.Proofs.YtoliipbmcekciaaDoor.QDc (obj_below take_at yields_blk load_blk load_any store_blk blk_setCells setAll far_setCells below_setCells)
set_option linter.unusedVariables false
set_option linter.unusedSimpArgs false
theorem toldOf_snd (o : Option (Nat × Int)) : (toldOf o).2 = sndOf o := by cases o <;> rfl
theorem tenF_ok {C : Cf} (h : (tenF C).2 = 0) : TenOK C ∧ C.l1.length ≠ 0 := by
  unfold tenF at h
  by_cases h1 : C.l1.length > 16
  · rw [if_pos h1] at h; exact absurd h (by decide)
  rw [if_neg h1] at h
  by_cases h0 : C.l1.length = 0
  · rw [if_pos h0] at h; exact absurd h (by decide)
  rw [if_neg h0, toldOf_snd] at h
  refine ⟨⟨by omega, fun i hi => ?_⟩, h0⟩
  have := scan_zero _ _ h i (Nat.zero_le _) (by omega)
  cases hb : okTen C i with
  | true => rfl
  | false => rw [hb, if_neg (by decide)] at this; exact absurd this (by decide)
def nextT (t f : Int × Int) : Int × Int := if t.2 = 0 then f else t
def chkT (C : Cf) : Int × Int := nextT (nextT (nextT (nextT (nextT (tenF C) (chaF C)) (quoF C)) (gatF C)) (fraF C)) (budF C)
def chkF (C : Cf) : Int × Int := if r02F C.l0 = 0 then chkT C else (0, r02F C.l0)
structure CB (C : Cf) (w : World) (g : Nat) (n e : Int) (w2 : World) : Prop where
  b : Below w.heap.size w w2
  e0 : w2.heap[w.heap.size]? = some (.cells C.v 28 (0, 0))
  eg : w2.heap[g]? = some (.cells #[.int .i64 n, .int .i64 e] 90 (0, 0))
  hg : w.heap.size < g
theorem CB.step {C : Cf} {w w2 w3 : World} {g : Nat} {n e n' e' : Int} (h : CB C w g n e w2) (hb : Below w2.heap.size w2 w3) : CB C w g n' e' ((w3.setCell ⟨g, 0, none⟩ (.int .i64 n')).setCell ⟨g, 1, none⟩ (.int .i64 e')) :=
  ⟨((h.b.trans (hb.mono h.b.size)).setCell (p := ⟨g, 0, none⟩) (Nat.le_of_lt h.hg) _).setCell (p := ⟨g, 1, none⟩) (Nat.le_of_lt h.hg) _, by
    rw [Below.heap_setCell _ _ _ _ (by have := h.hg; simp; omega), Below.heap_setCell _ _ _ _ (by have := h.hg; simp; omega)]; exact obj_below hb h.e0, blk_set (blk_set (obj_below hb h.eg) 0 _) 1 _, h.hg⟩
theorem CB.cells {C : Cf} {w w2 : World} {g : Nat} {n e : Int} (h : CB C w g n e w2) : w2.cell? ⟨g, 0, none⟩ = some (.int .i64 n) ∧ w2.cell? ⟨g, 1, none⟩ = some (.int .i64 e) ∧ w2.frozen? ⟨g, 0, none⟩ = false ∧ w2.frozen? ⟨g, 1, none⟩ = false := by
  refine ⟨?_, ?_, ?_, ?_⟩ <;> simp [World.cell?, World.frozen?, h.eg]
set_option maxRecDepth 100000 in
set_option maxHeartbeats 2000000 in
theorem Check_calls (C : Cf) (w : World) (hC : C.At w) (hL : C.Lim) : Calls Tryd.prog 16 #[.agg C.v] w fun e w' => e = .returned (.tuple #[.int .i64 (chkF C).1, .int .i64 (chkF C).2]) ∧ Below w.heap.size w w' := by
  have HC := Aside0.mk hC
  have HL := Aside0.mk hL
  clear hC hL
  have key : ∀ q : Int × Int, chkF C = q → Calls Tryd.prog 16 #[.agg C.v] w fun e w' => e = .returned (.tuple #[.int .i64 q.1, .int .i64 q.2]) ∧ Below w.heap.size w w' := by
    rintro ⟨qn, qe⟩ hq
    have HQ := Aside0.mk hq
    clear hq
    obtain ⟨e2, he2⟩ : ∃ x, r02F C.l0 = x := ⟨_, rfl⟩
    obtain ⟨⟨tn, te⟩, ht⟩ : ∃ x, tenF C = x := ⟨_, rfl⟩
    obtain ⟨⟨cn, ce⟩, hc⟩ : ∃ x, chaF C = x := ⟨_, rfl⟩
    obtain ⟨⟨un, ue⟩, hu⟩ : ∃ x, quoF C = x := ⟨_, rfl⟩
    obtain ⟨⟨gn, ge⟩, hg⟩ : ∃ x, gatF C = x := ⟨_, rfl⟩
    obtain ⟨⟨fn, fe⟩, hf⟩ : ∃ x, fraF C = x := ⟨_, rfl⟩
    obtain ⟨⟨bn, be⟩, hb⟩ : ∃ x, budF C = x := ⟨_, rfl⟩
    have H2 := Aside0.mk he2
    have HTN := Aside0.mk ht
    have HCH := Aside0.mk hc
    have HQU := Aside0.mk hu
    have HGA := Aside0.mk hg
    have HFR := Aside0.mk hf
    have HBU := Aside0.mk hb
    have HE : Aside0 ((qn, qe) = if e2 = 0 then nextT (nextT (nextT (nextT (nextT (tn, te) (cn, ce)) (un, ue)) (gn, ge)) (fn, fe)) (bn, be) else (0, e2)) := ⟨by rw [← HQ.out]; unfold chkF chkT; rw [he2, ht, hc, hu, hg, hf, hb]⟩
    clear he2 ht hc hu hg hf hb
    go_enter Tryd.func16, Tryd.ntmps16
    go_upto_region 1 with fail
    have HT := Aside0.mk (OB.start C w)
    generalize w.alloc (.cells C.v 28) = w2 at HT ⊢
    obtain ⟨A0, hA0⟩ : ∃ A, C.A0 = A := ⟨_, rfl⟩
    have HA0 := Aside0.mk hA0
    clear hA0
    have x0 := (cf_cell HT.out.e0).1
    rw [HA0.out] at x0
    by_cases h2 : e2 = 0
    · have d2 : (e2 != 0) = false := by simpa using h2
      have d2' : decide (e2 = 0) = true := decide_eq_true h2
      have HZ := Aside0.mk h2
      clear h2
      go_upto_region 4 with (first | (go_at_call 36; refine (rampartref02_Check.calls 1000 A0 C.c0 C.l0 e2 _ (by rw [← HA0.out]; exact (HC.out.below HT.out.b).r0) HC.out.h0 (by rw [R02_eq HL.out.u, H2.out])).mono ?_; rintro e wa ⟨rfl, hb⟩; have N1 := Aside0.mk hb; clear hb))
      have HT1 := Aside0.mk (HT.out.below N1.out)
      clear x0 d2 d2'
      go_upto_region 5 with (first | ((with_reducible refine gate_ (.load 28 (.tmp 1)) rfl ?_); refine load_blk rfl 28 (.tmp 1) rfl w.heap.size _ 28 rfl _ (HT1.out.e0) Tryd.underlying28 rfl (by kernel_rfl) ?_) | (go_at_call 37; refine (tenants_calls C _ (HC.out.below HT1.out.b) HL.out).mono ?_; rintro e wb ⟨rfl, hb⟩; rw [HTN.out]; have N2 := Aside0.mk hb; clear hb))
      have HT2 := Aside0.mk (HT1.out.below N2.out)
      have HS : Aside0 (CB C w wb.heap.size tn te (wb.alloc (.cells #[.int .i64 tn, .int .i64 te] 90))) := ⟨⟨HT2.out.b.alloc HT2.out.b.size _, (Below.heap_alloc _ _ _ (Array.getElem?_eq_some_iff.1 HT2.out.e0).1).trans HT2.out.e0, World.alloc_heap_new _ _, (Array.getElem?_eq_some_iff.1 HT2.out.e0).1⟩⟩
      generalize wb.alloc (.cells #[.int .i64 tn, .int .i64 te] 90) = ws at HS ⊢
      by_cases hz : te = 0
      · skip
        have HZt := Aside0.mk hz
        obtain ⟨z0, z1, f0, f1⟩ := HS.out.cells
        have d : (te == 0) = true := by simpa using hz
        have d' : decide (te = 0) = true := decide_eq_true hz
        have HTO : Aside0 (TenOK C) := ⟨(tenF_ok (by rw [HTN.out]; exact hz)).1⟩
        clear hz
        go_upto_region 7 with (first | ((with_reducible refine gate_ (.load 28 (.tmp 1)) rfl ?_); refine load_blk rfl 28 (.tmp 1) rfl w.heap.size _ 28 rfl _ (HS.out.e0) Tryd.underlying28 rfl (by kernel_rfl) ?_) | (go_at_call 38; refine (channels_calls C _ (HC.out.below HS.out.b) HL.out HTO.out).mono ?_; rintro e wz ⟨rfl, hb⟩; rw [HCH.out]; have NZ := Aside0.mk hb; obtain ⟨z0', z1', f0', f1'⟩ := (CB.cells ⟨HS.out.b.trans (hb.mono HS.out.b.size), obj_below hb HS.out.e0, obj_below hb HS.out.eg, HS.out.hg⟩ : _); clear hb))
        have HSN := Aside0.mk (HS.out.step (n' := cn) (e' := ce) NZ.out)
        clear z0 z1 f0 f1 z0' z1' f0' f1' d d' HS
        generalize ((wz.setCell ⟨wb.heap.size, 0, none⟩ (.int .i64 cn)).setCell ⟨wb.heap.size, 1, none⟩ (.int .i64 ce)) = ws at HSN ⊢
        have HS := HSN
        clear HSN NZ
        by_cases hz : ce = 0
        · skip
          have HZc := Aside0.mk hz
          obtain ⟨z0, z1, f0, f1⟩ := HS.out.cells
          have d : (ce == 0) = true := by simpa using hz
          have d' : decide (ce = 0) = true := decide_eq_true hz
          clear hz
          go_upto_region 9 with (first | ((with_reducible refine gate_ (.load 28 (.tmp 1)) rfl ?_); refine load_blk rfl 28 (.tmp 1) rfl w.heap.size _ 28 rfl _ (HS.out.e0) Tryd.underlying28 rfl (by kernel_rfl) ?_) | (go_at_call 39; refine (quotas_calls C _ (HC.out.below HS.out.b) HL.out).mono ?_; rintro e wz ⟨rfl, hb⟩; rw [HQU.out]; have NZ := Aside0.mk hb; obtain ⟨z0', z1', f0', f1'⟩ := (CB.cells ⟨HS.out.b.trans (hb.mono HS.out.b.size), obj_below hb HS.out.e0, obj_below hb HS.out.eg, HS.out.hg⟩ : _); clear hb))
          have HSN := Aside0.mk (HS.out.step (n' := un) (e' := ue) NZ.out)
          clear z0 z1 f0 f1 z0' z1' f0' f1' d d' HS
          generalize ((wz.setCell ⟨wb.heap.size, 0, none⟩ (.int .i64 un)).setCell ⟨wb.heap.size, 1, none⟩ (.int .i64 ue)) = ws at HSN ⊢
          have HS := HSN
          clear HSN NZ
          by_cases hz : ue = 0
          · skip
            have HZu := Aside0.mk hz
            obtain ⟨z0, z1, f0, f1⟩ := HS.out.cells
            have d : (ue == 0) = true := by simpa using hz
            have d' : decide (ue = 0) = true := decide_eq_true hz
            clear hz
            go_upto_region 11 with (first | ((with_reducible refine gate_ (.load 28 (.tmp 1)) rfl ?_); refine load_blk rfl 28 (.tmp 1) rfl w.heap.size _ 28 rfl _ (HS.out.e0) Tryd.underlying28 rfl (by kernel_rfl) ?_) | (go_at_call 40; refine (gates_calls C _ (HC.out.below HS.out.b) HL.out).mono ?_; rintro e wz ⟨rfl, hb⟩; rw [HGA.out]; have NZ := Aside0.mk hb; obtain ⟨z0', z1', f0', f1'⟩ := (CB.cells ⟨HS.out.b.trans (hb.mono HS.out.b.size), obj_below hb HS.out.e0, obj_below hb HS.out.eg, HS.out.hg⟩ : _); clear hb))
            have HSN := Aside0.mk (HS.out.step (n' := gn) (e' := ge) NZ.out)
            clear z0 z1 f0 f1 z0' z1' f0' f1' d d' HS
            generalize ((wz.setCell ⟨wb.heap.size, 0, none⟩ (.int .i64 gn)).setCell ⟨wb.heap.size, 1, none⟩ (.int .i64 ge)) = ws at HSN ⊢
            have HS := HSN
            clear HSN NZ
            by_cases hz : ge = 0
            · skip
              have HZg := Aside0.mk hz
              obtain ⟨z0, z1, f0, f1⟩ := HS.out.cells
              have d : (ge == 0) = true := by simpa using hz
              have d' : decide (ge = 0) = true := decide_eq_true hz
              clear hz
              go_upto_region 13 with (first | ((with_reducible refine gate_ (.load 28 (.tmp 1)) rfl ?_); refine load_blk rfl 28 (.tmp 1) rfl w.heap.size _ 28 rfl _ (HS.out.e0) Tryd.underlying28 rfl (by kernel_rfl) ?_) | (go_at_call 41; refine (frame_calls C _ (HC.out.below HS.out.b) HL.out HTO.out.1).mono ?_; rintro e wz ⟨rfl, hb⟩; rw [HFR.out]; have NZ := Aside0.mk hb; obtain ⟨z0', z1', f0', f1'⟩ := (CB.cells ⟨HS.out.b.trans (hb.mono HS.out.b.size), obj_below hb HS.out.e0, obj_below hb HS.out.eg, HS.out.hg⟩ : _); clear hb))
              have HSN := Aside0.mk (HS.out.step (n' := fn) (e' := fe) NZ.out)
              clear z0 z1 f0 f1 z0' z1' f0' f1' d d' HS
              generalize ((wz.setCell ⟨wb.heap.size, 0, none⟩ (.int .i64 fn)).setCell ⟨wb.heap.size, 1, none⟩ (.int .i64 fe)) = ws at HSN ⊢
              have HS := HSN
              clear HSN NZ
              by_cases hz : fe = 0
              · skip
                have HZf := Aside0.mk hz
                obtain ⟨z0, z1, f0, f1⟩ := HS.out.cells
                have d : (fe == 0) = true := by simpa using hz
                have d' : decide (fe = 0) = true := decide_eq_true hz
                clear hz
                go_upto_region 15 with (first | ((with_reducible refine gate_ (.load 28 (.tmp 1)) rfl ?_); refine load_blk rfl 28 (.tmp 1) rfl w.heap.size _ 28 rfl _ (HS.out.e0) Tryd.underlying28 rfl (by kernel_rfl) ?_) | (go_at_call 42; refine (budget_calls C _ (HC.out.below HS.out.b) HL.out).mono ?_; rintro e wz ⟨rfl, hb⟩; rw [HBU.out]; have NZ := Aside0.mk hb; obtain ⟨z0', z1', f0', f1'⟩ := (CB.cells ⟨HS.out.b.trans (hb.mono HS.out.b.size), obj_below hb HS.out.e0, obj_below hb HS.out.eg, HS.out.hg⟩ : _); clear hb))
                have HSN := Aside0.mk (HS.out.step (n' := bn) (e' := be) NZ.out)
                clear z0 z1 f0 f1 z0' z1' f0' f1' d d' HS
                generalize ((wz.setCell ⟨wb.heap.size, 0, none⟩ (.int .i64 bn)).setCell ⟨wb.heap.size, 1, none⟩ (.int .i64 be)) = ws at HSN ⊢
                have HS := HSN
                clear HSN NZ
                have eq := HE.out
                simp only [HZ.out, nextT, HZt.out, HZc.out, HZu.out, HZg.out, HZf.out, if_true] at eq
                simp only [Prod.mk.injEq] at eq
                obtain ⟨z0, z1, f0, f1⟩ := HS.out.cells
                go_quiet (fail)
                go_wp2
                go_ret2
                exact ⟨by rw [eq.1, eq.2]; rfl, pw_below_drewN HS.out.b _⟩
              · skip
                have eq := HE.out
                simp only [HZ.out, nextT, HZt.out, HZc.out, HZu.out, HZg.out, if_true, if_neg hz] at eq
                simp only [Prod.mk.injEq] at eq
                obtain ⟨z0, z1, f0, f1⟩ := HS.out.cells
                have d : (fe == 0) = false := by simpa using hz
                have d' : decide (fe = 0) = false := decide_eq_false hz
                clear hz
                go_wp2_with fail
                go_quiet (fail)
                go_wp2
                go_ret2
                exact ⟨by rw [eq.1, eq.2]; rfl, pw_below_drewN HS.out.b _⟩
            · skip
              have eq := HE.out
              simp only [HZ.out, nextT, HZt.out, HZc.out, HZu.out, if_true, if_neg hz] at eq
              simp only [Prod.mk.injEq] at eq
              obtain ⟨z0, z1, f0, f1⟩ := HS.out.cells
              have d : (ge == 0) = false := by simpa using hz
              have d' : decide (ge = 0) = false := decide_eq_false hz
              clear hz
              go_wp2_with fail
              go_quiet (fail)
              go_wp2
              go_ret2
              exact ⟨by rw [eq.1, eq.2]; rfl, pw_below_drewN HS.out.b _⟩
          · skip
            have eq := HE.out
            simp only [HZ.out, nextT, HZt.out, HZc.out, if_true, if_neg hz] at eq
            simp only [Prod.mk.injEq] at eq
            obtain ⟨z0, z1, f0, f1⟩ := HS.out.cells
            have d : (ue == 0) = false := by simpa using hz
            have d' : decide (ue = 0) = false := decide_eq_false hz
            clear hz
            go_wp2_with fail
            go_quiet (fail)
            go_wp2
            go_ret2
            exact ⟨by rw [eq.1, eq.2]; rfl, pw_below_drewN HS.out.b _⟩
        · skip
          have eq := HE.out
          simp only [HZ.out, nextT, HZt.out, if_true, if_neg hz] at eq
          simp only [Prod.mk.injEq] at eq
          obtain ⟨z0, z1, f0, f1⟩ := HS.out.cells
          have d : (ce == 0) = false := by simpa using hz
          have d' : decide (ce = 0) = false := decide_eq_false hz
          clear hz
          go_wp2_with fail
          go_quiet (fail)
          go_wp2
          go_ret2
          exact ⟨by rw [eq.1, eq.2]; rfl, pw_below_drewN HS.out.b _⟩
      · skip
        have eq := HE.out
        simp only [HZ.out, nextT, if_true, if_neg hz] at eq
        simp only [Prod.mk.injEq] at eq
        obtain ⟨z0, z1, f0, f1⟩ := HS.out.cells
        have d : (te == 0) = false := by simpa using hz
        have d' : decide (te = 0) = false := decide_eq_false hz
        clear hz
        go_wp2_with fail
        go_quiet (fail)
        go_wp2
        go_ret2
        exact ⟨by rw [eq.1, eq.2]; rfl, pw_below_drewN HS.out.b _⟩
      skip
    · have d2 : (e2 != 0) = true := by simpa using h2
      have d2' : decide (e2 = 0) = false := decide_eq_false h2
      have eq := HE.out
      rw [if_neg h2] at eq
      simp only [Prod.mk.injEq] at eq
      clear h2
      go_wp2_with (first | (go_at_call 36; refine (rampartref02_Check.calls 1000 A0 C.c0 C.l0 e2 _ (by rw [← HA0.out]; exact (HC.out.below HT.out.b).r0) HC.out.h0 (by rw [R02_eq HL.out.u, H2.out])).mono ?_; rintro e wa ⟨rfl, hb⟩; have N1 := Aside0.mk hb; clear hb))
      go_ret2
      exact ⟨by rw [eq.1, eq.2]; rfl, HT.out.b.trans (N1.out.mono HT.out.b.size)⟩
  exact key _ rfl
end Go.Proofs.YtoliipbmcekciaaDoor.QDd
namespace Go.Proofs.YtoliipbmcekciaaDoor.QDd
open Go.RowKit Go.Proofs.YtoliipbmcekciaaDoorW.PrintWords Go.Proofs.YtoliipbmcekciaaDoorW.PrintLast Go.Proofs.YtoliipbmcekciaaDoorW.PrintMore
open Go.Proofs.YtoliipbmcekciaaDoor.QDc (obj_below take_at yields_blk load_blk load_any store_blk blk_setCells setAll far_setCells below_setCells)
set_option linter.unusedVariables false
set_option linter.unusedSimpArgs false
theorem chk_r02 {C : Cf} (h : (chkF C).2 = 0) : r02F C.l0 = 0 ∧ (chkT C).2 = 0 := by
  unfold chkF at h
  by_cases hz : r02F C.l0 = 0
  · rw [if_pos hz] at h; exact ⟨hz, h⟩
  · rw [if_neg hz] at h; exact absurd h hz
theorem nextT_ok {t f : Int × Int} (h : (nextT t f).2 = 0) : t.2 = 0 ∧ f.2 = 0 := by
  unfold nextT at h
  by_cases hz : t.2 = 0
  · rw [if_pos hz] at h; exact ⟨hz, h⟩
  · rw [if_neg hz] at h; exact absurd h hz
structure Good (C : Cf) : Prop where
  r : r02F C.l0 = 0
  t : TenOK C
  t0 : C.l1.length ≠ 0
  c : ∀ i, i < C.l2.length → chE C i = 0
  f : C.l4.length ≤ 64 ∧ C.l4.length ≠ 0 ∧ ∀ i, i < C.l4.length → okFr C i = true
theorem chk_good {C : Cf} (h : (chkF C).2 = 0) : Good C := by
  obtain ⟨hr, ht⟩ := chk_r02 h
  obtain ⟨h1, hb⟩ := nextT_ok ht
  obtain ⟨h2, hf⟩ := nextT_ok h1
  obtain ⟨h3, hg⟩ := nextT_ok h2
  obtain ⟨h4, hq⟩ := nextT_ok h3
  obtain ⟨h5, hc⟩ := nextT_ok h4
  obtain ⟨hto, ht0⟩ := tenF_ok h5
  refine ⟨hr, hto, ht0, fun i hi => ?_, ?_⟩
  · unfold chaF at hc
    by_cases h32 : C.l2.length > 32
    · rw [if_pos h32] at hc; exact absurd hc (by decide)
    · rw [if_neg h32, toldOf_snd] at hc
      exact scan_zero _ _ hc i (Nat.zero_le _) (by omega)
  · unfold fraF at hf
    by_cases h64 : C.l4.length > 64
    · rw [if_pos h64] at hf; exact absurd hf (by decide)
    · rw [if_neg h64] at hf
      by_cases h0 : C.l4.length = 0
      · rw [if_pos h0] at hf; exact absurd hf (by decide)
      · rw [if_neg h0] at hf
        refine ⟨by omega, h0, fun i hi => ?_⟩
        have hs : sndOf (scan (fun i => if okFr C i = true then 0 else 47) 0 C.l4.length) = 0 := by
          cases hq2 : scan (fun i => if okFr C i = true then 0 else 47) 0 C.l4.length with
          | none => rfl
          | some p => rw [hq2] at hf; exact hf
        have := scan_zero _ _ hs i (Nat.zero_le _) (by omega)
        cases hb2 : okFr C i with
        | true => rfl
        | false => rw [hb2, if_neg (by decide)] at this; exact absurd this (by decide)
theorem u8_and {a b : Int} (ha : U8 a) (hb : U8 b) : ∃ x y : Nat, a = x ∧ b = y ∧ bits .and .u8 a b = ((x &&& y : Nat) : Int) := by
  obtain ⟨x, rfl⟩ := Int.eq_ofNat_of_zero_le ha.1
  obtain ⟨y, rfl⟩ := Int.eq_ofNat_of_zero_le hb.1
  exact ⟨x, y, rfl, rfl, (bits_nat .u8 8 (by decide) wraps_u8 x y (by have := ha.2; omega) (by have := hb.2; omega)).1⟩
theorem u8_and_trans {a b c : Int} (ha : U8 a) (hb : U8 b) (hc : U8 c) (h1 : bits .and .u8 a b = b) (h2 : bits .and .u8 b c = c) : bits .and .u8 a c = c := by
  obtain ⟨x, y, rfl, rfl, e1⟩ := u8_and ha hb
  obtain ⟨y', z, ey, rfl, e2⟩ := u8_and hb hc
  obtain ⟨x', z', ex, ez, e3⟩ := u8_and ha hc
  have : y' = y := by omega
  subst this
  have : x' = x := by omega
  subst this
  have : z' = z := by omega
  subst this
  rw [e1] at h1
  rw [e2] at h2
  rw [e3]
  have k1 : x' &&& y' = y' := by omega
  have k2 : y' &&& z' = z' := by omega
  have : x' &&& z' = z' := by rw [← k2, ← Nat.and_assoc, k1]
  rw [this]
theorem flows_trans {C : Cf} (hL : C.Lim) (hr : r02F C.l0 = 0) {a b c : Int} (h1 : flowsB C.l0 C.l1 a b = true) (h2 : flowsB C.l0 C.l1 b c = true) : flowsB C.l0 C.l1 a c = true := by
  unfold flowsB at h1 h2 ⊢
  simp only [Bool.and_eq_true] at h1 h2 ⊢
  obtain ⟨a1, b1, l1, m1, f1⟩ := h1
  obtain ⟨_, c1, l2, m2, f2⟩ := h2
  refine ⟨a1, c1, l1, m1, ?_⟩
  have l1' := of_decide_eq_true l1
  have m1' := of_decide_eq_true m1
  have l2' := of_decide_eq_true l2
  have m2' := of_decide_eq_true m2
  obtain ⟨x, hx⟩ := Int.eq_ofNat_of_zero_le l1'
  obtain ⟨y, hy⟩ := Int.eq_ofNat_of_zero_le l2'
  rw [hx] at f1 m1' ⊢
  rw [hy] at f1 f2 m2'
  exact r02_trans hL.u hr (by omega) (by omega) f1 f2
def grB (l0 : List Int) (l1 : List S97) (l : List S87) (a b ch xr r : Int) : Bool := flowsB l0 l1 a b && (bits .and .u8 xr 4 != 0 && (bits .and .u8 xr r == r && Rules3B l ch b r))
/-- What is granted on might have been granted at once. -/
theorem grants_down {C : Cf} (hL : C.Lim) (hr : r02F C.l0 = 0) {a m b ch xr r on : Int} (hx : U8 xr) (hr8 : U8 r) (ho : U8 on) (h1 : grB C.l0 C.l1 C.l2 a m ch xr r = true) (h2 : grB C.l0 C.l1 C.l2 m b ch r on = true) : grB C.l0 C.l1 C.l2 a b ch xr on = true := by
  unfold grB at h1 h2 ⊢
  simp only [Bool.and_eq_true] at h1 h2 ⊢
  obtain ⟨f1, g1, i1, n1⟩ := h1
  obtain ⟨f2, g2, i2, n2⟩ := h2
  refine ⟨flows_trans hL hr f1 f2, g1, ?_, n2⟩
  have := u8_and_trans hx hr8 ho (by simpa using i1) (by simpa using i2)
  simpa using this
theorem grants_named {l0 : List Int} {l1 : List S97} {l : List S87} {a m ch xr r : Int} (h : grB l0 l1 l a m ch xr r = true) : Rules3B l ch m r = true ∧ (bits .and .u8 xr r == r) = true := by
  unfold grB at h
  simp only [Bool.and_eq_true] at h
  exact ⟨h.2.2.2, h.2.2.1⟩
end Go.Proofs.YtoliipbmcekciaaDoor.QDd
