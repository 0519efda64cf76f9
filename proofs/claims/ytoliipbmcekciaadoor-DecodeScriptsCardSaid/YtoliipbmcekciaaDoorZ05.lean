/- Texts of this claim, joined: RCDe, UADe. -/
import Derived.Test.YtoliipbmcekciaaDoorZ03
import Derived.Test.YtoliipbmcekciaaDoorZ04
import Derived.Laws.BitsLemmas
namespace Go.Proofs.YtoliipbmcekciaaDoor.QDd
open Go.RowKit Go.Proofs.YtoliipbmcekciaaDoorW.PrintWords Go.Proofs.YtoliipbmcekciaaDoorW.PrintLast Go.Proofs.YtoliipbmcekciaaDoorW.PrintMore
set_option linter.unusedVariables false
set_option linter.unusedSimpArgs false
/-- The members of a set below a number, rising. -/
def bl (s : Int) : Nat → List Int
  | 0 => []
  | m + 1 => if hasBit s (m : Int) = true then bl s m ++ [(m : Int)] else bl s m
theorem bl_len (s : Int) : ∀ m, (bl s m).length ≤ m
  | 0 => Nat.le_refl _
  | m + 1 => by
    have := bl_len s m
    unfold bl
    split
    · rw [List.length_append]; simp; omega
    · omega
theorem bl_last (s : Int) (n : Int) : ∀ m, 0 < (bl s m).length → (rd (bl s m) (((bl s m).length : Int) - 1) ≥ n ↔ (bl s m).any (fun x => decide (n ≤ x)) = true) ∧ ∀ x ∈ bl s m, x < (m : Int)
  | 0, h => absurd h (show ¬ 0 < ([] : List Int).length by decide)
  | m + 1, h => by
    unfold bl at h ⊢
    split at h
    · rename_i hb
      rw [if_pos hb]
      have hall : ∀ x ∈ bl s m, x < (m : Int) := by
        by_cases h0 : 0 < (bl s m).length
        · exact (bl_last s n m h0).2
        · intro x hx
          have : bl s m = [] := List.length_eq_zero_iff.1 (by omega)
          rw [this] at hx
          exact absurd hx (by simp)
      constructor
      · have e : rd (bl s m ++ [(m : Int)]) (((bl s m ++ [(m : Int)]).length : Int) - 1) = (m : Int) := by
          unfold rd
          rw [List.length_append]
          have : (((bl s m).length + [(m : Int)].length : Nat) : Int) - 1 = ((bl s m).length : Int) := by simp
          rw [this, Int.toNat_natCast, List.getD_eq_getElem?_getD, List.getElem?_append_right (Nat.le_refl _), Nat.sub_self]
          rfl
        rw [e, List.any_append]
        constructor
        · intro hm
          rw [show [(m : Int)].any (fun x => decide (n ≤ x)) = true by simpa using hm, Bool.or_true]
        · intro ho
          rcases Bool.or_eq_true_iff.1 ho with h1 | h1
          · obtain ⟨x, hx, hn⟩ := List.any_eq_true.1 h1
            have := hall x hx
            have := of_decide_eq_true hn
            omega
          · simpa using h1
      · intro x hx
        rcases List.mem_append.1 hx with h1 | h1
        · have := hall x h1; omega
        · simp at h1; omega
    · rename_i hb
      rw [if_neg hb]
      obtain ⟨a, b⟩ := bl_last s n m h
      exact ⟨a, fun x hx => by have := b x hx; omega⟩
theorem List_l0 {s : Int} (hs : U64 s) : ∀ (d m k : Nat), 64 - m = d → 66 + d < k → m ≤ 64 → rampartref01_List.l0 k s (bl s m) (m : Int) = some (bl s 64)
  | 0, m, k, h1, h2, h3 => by
    obtain ⟨k, rfl⟩ : ∃ j, k = j + 1 := ⟨k - 1, by omega⟩
    obtain rfl : m = 64 := by omega
    rw [rampartref01_List.l0, if_neg (by omega)]
  | d + 1, m, k, h1, h2, h3 => by
    obtain ⟨k, rfl⟩ : ∃ j, k = j + 1 := ⟨k - 1, by omega⟩
    have hlen := bl_len s m
    rw [rampartref01_List.l0, if_pos (by omega), R01Has_eq hs (m : Int) k (by omega)]
    simp only [Option.bind_some]
    have e : wrap64 ((m : Int) + 1) = ((m + 1 : Nat) : Int) := by unfold wrap64; omega
    cases hb : hasBit s (m : Int) with
    | true =>
      rw [if_pos rfl, if_pos (by omega), e]
      have := List_l0 hs d (m + 1) k (by omega) (by omega) (by omega)
      rw [show bl s (m + 1) = bl s m ++ [(m : Int)] by rw [bl, if_pos hb]] at this
      exact this
    | false =>
      rw [if_neg (by decide), e]
      have := List_l0 hs d (m + 1) k (by omega) (by omega) (by omega)
      rw [show bl s (m + 1) = bl s m by rw [bl, if_neg (by rw [hb]; decide)]] at this
      exact this
theorem RList_eq {s : Int} (hs : U64 s) (k : Nat) (hk : 140 ≤ k) : rampartref01_List.f k s = some (bl s 64) := List_l0 hs 64 0 k (by omega) (by omega) (by omega)
def rowBad (l : List Int) (i : Nat) : Bool := (bl (rd l (i : Int)) 64).any (fun x => decide ((l.length : Int) ≤ x))
def r01F (l : List Int) : Int := if l.length > 64 then 3 else sndOf (scan (fun i => if rowBad l i = true then 10 else 0) 0 l.length)
theorem rd_u64 {l : List Int} (h : ∀ x ∈ l, U64 x) {i : Nat} (hi : i < l.length) : U64 (rd l (i : Int)) := by
  unfold rd
  rw [Int.toNat_natCast, List.getD_eq_getElem?_getD, List.getElem?_eq_getElem hi]
  exact h _ (List.getElem_mem hi)
theorem R01_l0 {l : List Int} (h : ∀ x ∈ l, U64 x) (hl : l.length ≤ 64) : ∀ (d m k : Nat), l.length - m = d → 150 + d < k → m ≤ l.length → (∀ j, j < m → rowBad l j = false) → rampartref01_Check.l0 k l (m : Int) = some (sndOf (scan (fun i => if rowBad l i = true then 10 else 0) 0 l.length))
  | 0, m, k, h1, h2, h3, hj => by
    obtain ⟨k, rfl⟩ : ∃ j, k = j + 1 := ⟨k - 1, by omega⟩
    rw [rampartref01_Check.l0, if_neg (by omega), snd_none (fun j hlt => by rw [hj j (by omega)]; rfl)]
  | d + 1, m, k, h1, h2, h3, hj => by
    obtain ⟨k, rfl⟩ : ∃ j, k = j + 1 := ⟨k - 1, by omega⟩
    rw [rampartref01_Check.l0, if_pos (by omega), if_pos (by omega), RList_eq (rd_u64 h (by omega)) k (by omega)]
    simp only [Option.bind_some]
    have e : wrap64 ((m : Int) + 1) = ((m + 1 : Nat) : Int) := by unfold wrap64; omega
    have hlen := bl_len (rd l (m : Int)) 64
    have go : rowBad l m = false → rampartref01_Check.l0 k l (wrap64 ((m : Int) + 1)) = some (sndOf (scan (fun i => if rowBad l i = true then 10 else 0) 0 l.length)) := by
      intro hb
      rw [e]
      exact R01_l0 h hl d (m + 1) k (by omega) (by omega) (by omega) (fun j hlt => by
        by_cases ej : j = m
        · subst ej; exact hb
        · exact hj j (by omega))
    by_cases h0 : 0 < (bl (rd l (m : Int)) 64).length
    · have ew : wrap64 (((bl (rd l (m : Int)) 64).length : Int) - 1) = ((bl (rd l (m : Int)) 64).length : Int) - 1 := by unfold wrap64; omega
      rw [if_pos (by omega), ew, if_pos (by omega), if_pos (by omega)]
      have hl2 := (bl_last (rd l (m : Int)) (l.length : Int) 64 h0).1
      by_cases hg : rd (bl (rd l (m : Int)) 64) (((bl (rd l (m : Int)) 64).length : Int) - 1) ≥ (l.length : Int)
      · have hb : rowBad l m = true := hl2.1 hg
        rw [if_pos hg, snd_hit (i := m) (by rw [hb, if_pos rfl]; decide) (by omega) (fun j hlt => by rw [hj j hlt]; rfl), hb, if_pos rfl]
      · rw [if_neg hg]
        refine go ?_
        cases hb : rowBad l m with
        | false => rfl
        | true => exact absurd (hl2.2 hb) hg
    · rw [if_neg (by omega)]
      refine go ?_
      have : bl (rd l (m : Int)) 64 = [] := List.length_eq_zero_iff.1 (by omega)
      unfold rowBad
      rw [this]
      rfl
theorem R01_eq {l : List Int} (h : ∀ x ∈ l, U64 x) (k : Nat) (hk : 300 ≤ k) : rampartref01_Check.f k l = some (r01F l) := by
  unfold rampartref01_Check.f r01F
  by_cases h1 : l.length > 64
  · rw [if_pos (by omega), if_pos h1]
  · rw [if_neg (by omega), if_neg h1]
    exact R01_l0 h (by omega) l.length 0 k (by omega) (by omega) (by omega) (fun j hj => absurd hj (by omega))
def polQ (l : List Int) (a b : Nat) : Bool := hasBit (rd l (a : Int)) (b : Int) && (bits .andNot .u64 (rd l (b : Int)) (rd l (a : Int)) != 0)
def polE (l : List Int) (a : Nat) : Int := if hasBit (rd l (a : Int)) (a : Int) = false then 20 else if anyTo (polQ l a) l.length = true then 20 else 0
def r02F (l : List Int) : Int := if l.length > 16 then 3 else if l.length = 0 then 1 else if r01F l = 0 then sndOf (scan (polE l) 0 l.length) else r01F l
theorem R02_l1 {l : List Int} (h : ∀ x ∈ l, U64 x) (hl : l.length ≤ 16) {a : Nat} (ha : a < l.length) : ∀ (d b k : Nat), l.length - b = d → 70 < k → b ≤ l.length → (∀ j, j < b → polQ l a j = false) → rampartref02_Check.l1 (k + (d + 1)) l (a : Int) (b : Int) = if anyTo (polQ l a) l.length = true then some 20 else rampartref02_Check.l0 k l ((a + 1 : Nat) : Int)
  | 0, b, k, h1, h2, h3, hj => by
    have e : wrap64 ((a : Int) + 1) = ((a + 1 : Nat) : Int) := by unfold wrap64; omega
    rw [rampartref02_Check.l1, if_neg (by omega), anyTo_none _ (fun j hlt => hj j (by omega)), if_neg (by decide), e, Nat.add_zero]
  | d + 1, b, k, h1, h2, h3, hj => by
    have e : wrap64 ((b : Int) + 1) = ((b + 1 : Nat) : Int) := by unfold wrap64; omega
    rw [show k + (d + 1 + 1) = (k + (d + 1)) + 1 by omega, rampartref02_Check.l1, if_pos (by omega), if_pos (by omega), if_pos (by omega), R01Has_eq (rd_u64 h ha) (b : Int) _ (by omega)]
    simp only [Option.bind_some]
    have go : polQ l a b = false → rampartref02_Check.l1 (k + (d + 1)) l (a : Int) (wrap64 ((b : Int) + 1)) = if anyTo (polQ l a) l.length = true then some 20 else rampartref02_Check.l0 k l ((a + 1 : Nat) : Int) := by
      intro hb
      rw [e]
      exact R02_l1 h hl ha d (b + 1) k (by omega) h2 (by omega) (fun j hlt => by
        by_cases ej : j = b
        · subst ej; exact hb
        · exact hj j (by omega))
    cases hb : hasBit (rd l (a : Int)) (b : Int) with
    | false =>
      rw [if_neg (by decide)]
      exact go (by unfold polQ; rw [hb]; rfl)
    | true =>
      rw [if_pos rfl, if_pos (by omega)]
      by_cases hz : bits .andNot .u64 (rd l (b : Int)) (rd l (a : Int)) = 0
      · rw [if_pos hz]
        exact go (by unfold polQ; rw [hb, hz]; rfl)
      · rw [if_neg hz, if_pos (anyTo_hit (k := b) (by unfold polQ; rw [hb, Bool.true_and]; simpa using hz) _ (by omega))]
theorem R02_l0 {l : List Int} (h : ∀ x ∈ l, U64 x) (hl : l.length ≤ 16) : ∀ (d a k : Nat), l.length - a = d → 100 + 20 * d < k → a ≤ l.length → (∀ j, j < a → polE l j = 0) → rampartref02_Check.l0 k l (a : Int) = some (sndOf (scan (polE l) 0 l.length))
  | 0, a, k, h1, h2, h3, hj => by
    obtain ⟨k, rfl⟩ : ∃ j, k = j + 1 := ⟨k - 1, by omega⟩
    rw [rampartref02_Check.l0, if_neg (by omega), snd_none (fun j hlt => hj j (by omega))]
  | d + 1, a, k, h1, h2, h3, hj => by
    obtain ⟨k, rfl⟩ : ∃ j, k = j + 1 := ⟨k - 1, by omega⟩
    rw [rampartref02_Check.l0, if_pos (by omega), if_pos (by omega), R01Has_eq (rd_u64 h (by omega)) (a : Int) _ (by omega)]
    simp only [Option.bind_some]
    cases hb : hasBit (rd l (a : Int)) (a : Int) with
    | false =>
      have he : polE l a = 20 := by unfold polE; rw [hb, if_pos rfl]
      rw [if_neg (by decide), snd_hit (i := a) (by rw [he]; decide) (by omega) hj, he]
    | true =>
      rw [if_pos rfl]
      obtain ⟨k', rfl⟩ : ∃ j, k = j + (l.length + 1) := ⟨k - (l.length + 1), by omega⟩
      have h9 := R02_l1 h hl (a := a) (by omega) l.length 0 k' (by omega) (by omega) (by omega) (fun j hlt => absurd hlt (by omega))
      rw [show ((0 : Nat) : Int) = 0 from rfl] at h9
      rw [h9]
      cases hq : anyTo (polQ l a) l.length with
      | true =>
        have he : polE l a = 20 := by unfold polE; rw [hb, if_neg (by decide), if_pos hq]
        rw [if_pos rfl, snd_hit (i := a) (by rw [he]; decide) (by omega) hj, he]
      | false =>
        have he : polE l a = 0 := by unfold polE; rw [hb, if_neg (by decide), hq, if_neg (by decide)]
        rw [if_neg (by decide)]
        exact R02_l0 h hl d (a + 1) k' (by omega) (by omega) (by omega) (fun j hlt => by
          by_cases ej : j = a
          · subst ej; exact he
          · exact hj j (by omega))
theorem R02_eq {l : List Int} (h : ∀ x ∈ l, U64 x) : rampartref02_Check.f 1000 l = some (r02F l) := by
  unfold rampartref02_Check.f rampartref02_shape.f r02F
  by_cases h1 : l.length > 16
  · rw [if_pos (by omega), if_pos h1]; rfl
  · rw [if_neg (by omega), if_neg h1]
    by_cases h0 : l.length = 0
    · rw [if_pos (by omega), if_pos h0]; rfl
    · rw [if_neg (by omega), if_neg h0, R01_eq h 1000 (by omega)]
      simp only [Option.bind_some]
      by_cases hz : r01F l = 0
      · rw [if_pos hz, if_pos hz]
        exact R02_l0 h (by omega) l.length 0 1000 (by omega) (by omega) (by omega) (fun j hj => absurd hj (by omega))
      · rw [if_neg hz, if_neg hz]
theorem scan_zero {f : Nat → Int} : ∀ (d m : Nat), sndOf (scan f m d) = 0 → ∀ j, m ≤ j → j < m + d → f j = 0
  | 0, m, _, j, h1, h2 => absurd h2 (by omega)
  | d + 1, m, h, j, h1, h2 => by
    unfold scan at h
    by_cases e : f m = 0
    · rw [if_pos e] at h
      by_cases ej : j = m
      · subst ej; exact e
      · exact scan_zero d (m + 1) h j (by omega) (by omega)
    · rw [if_neg e] at h
      exact absurd h e
theorem anyTo_false {p : Nat → Bool} : ∀ n, anyTo p n = false → ∀ k, k < n → p k = false
  | 0, _, k, h => absurd h (by omega)
  | n + 1, h, k, hk => by
    unfold anyTo at h
    rw [Bool.or_eq_false_iff] at h
    by_cases e : k = n
    · subst e; exact h.2
    · exact anyTo_false n h.1 k (by omega)
theorem bits_andNot_u64_nat (a b : Nat) (ha : a < 18446744073709551616) (hb : b < 18446744073709551616) (h : bits .andNot .u64 (a : Int) (b : Int) = 0) (i : Nat) (hi : a.testBit i = true) : b.testBit i = true := by
  have hi64 : i < 64 := by
    apply Classical.byContradiction
    intro hn
    have : a < 2 ^ i := Nat.lt_of_lt_of_le (show a < 2 ^ 64 by omega) (Nat.pow_le_pow_right (by decide) (by omega))
    rw [Nat.testBit_lt_two_pow this] at hi
    exact absurd hi (by decide)
  have h' : IntKind.u64.wrap ((BitVec.ofInt 64 (a : Int) &&& ~~~(BitVec.ofInt 64 (b : Int))).toNat : Int) = 0 := h
  rw [IntKind.wrap_u64] at h'
  have hlt := (BitVec.ofInt 64 (a : Int) &&& ~~~(BitVec.ofInt 64 (b : Int))).isLt
  have h0 : (BitVec.ofInt 64 (a : Int) &&& ~~~(BitVec.ofInt 64 (b : Int))).toNat = 0 := by omega
  have hz : BitVec.ofInt 64 (a : Int) &&& ~~~(BitVec.ofInt 64 (b : Int)) = 0#64 := BitVec.eq_of_toNat_eq (by rw [h0]; rfl)
  have hg := congrArg (fun v => v.getLsbD i) hz
  simp only [BitVec.getLsbD_and, BitVec.getLsbD_not, BitVec.getLsbD_zero, hi64, decide_true, Bool.true_and, BitVec.ofInt_natCast, BitVec.getLsbD_ofNat, hi] at hg
  cases hbb : b.testBit i with
  | true => rfl
  | false => rw [hbb] at hg; simp at hg
end Go.Proofs.YtoliipbmcekciaaDoor.QDd
namespace Go.Proofs.YtoliipbmcekciaaDoor.QDd
open Go.RowKit Go.Proofs.YtoliipbmcekciaaDoorW.PrintWords Go.Proofs.YtoliipbmcekciaaDoorW.PrintLast Go.Proofs.YtoliipbmcekciaaDoorW.PrintMore
open Go.Proofs.YtoliipbmcekciaaDoor.QDc (tk putL putN obj_below take_at yields_blk load_blk load_any store_blk blk_setCells setAll far_setCells below_setCells)
set_option linter.unusedVariables false
set_option linter.unusedSimpArgs false
theorem toldOf_snd (o : Option (Nat × Int)) : (toldOf o).2 = sndOf o := by cases o <;> rfl
theorem tenF_ok {C : Cf} (h : (tenF C).2 = 0) : TenOK C ∧ C.l1.length ≠ 0 := by
  unfold tenF at h
  by_cases h1 : C.l1.length > 16
  · rw [if_pos h1] at h; exact absurd h (by decide)
  rw [if_neg h1] at h
  by_cases h0 : C.l1.length = 0
  · rw [if_pos h0] at h; exact absurd h (by decide)
  rw [if_neg h0, toldOf_snd] at h
  refine ⟨⟨by omega, fun i hi => ?_⟩, h0⟩
  have := scan_zero _ _ h i (Nat.zero_le _) (by omega)
  cases hb : okTen C i with
  | true => rfl
  | false => rw [hb, if_neg (by decide)] at this; exact absurd this (by decide)
def nextT (t f : Int × Int) : Int × Int := if t.2 = 0 then f else t
def chkT (C : Cf) : Int × Int := nextT (nextT (nextT (nextT (nextT (tenF C) (chaF C)) (quoF C)) (gatF C)) (fraF C)) (budF C)
def chkF (C : Cf) : Int × Int := if r02F C.l0 = 0 then chkT C else (0, r02F C.l0)
structure CB (C : Cf) (w : World) (g : Nat) (n e : Int) (w2 : World) : Prop where
  b : Below w.heap.size w w2
  e0 : w2.heap[w.heap.size]? = some (.cells C.v 28 (0, 0))
  eg : w2.heap[g]? = some (.cells #[.int .i64 n, .int .i64 e] 90 (0, 0))
  hg : w.heap.size < g
theorem CB.step {C : Cf} {w w2 w3 : World} {g : Nat} {n e n' e' : Int} (h : CB C w g n e w2) (hb : Below w2.heap.size w2 w3) : CB C w g n' e' ((w3.setCell ⟨g, 0, none⟩ (.int .i64 n')).setCell ⟨g, 1, none⟩ (.int .i64 e')) :=
  ⟨((h.b.trans (hb.mono h.b.size)).setCell (p := ⟨g, 0, none⟩) (Nat.le_of_lt h.hg) _).setCell (p := ⟨g, 1, none⟩) (Nat.le_of_lt h.hg) _, by
    rw [Below.heap_setCell _ _ _ _ (by have := h.hg; simp; omega), Below.heap_setCell _ _ _ _ (by have := h.hg; simp; omega)]; exact obj_below hb h.e0, blk_set (blk_set (obj_below hb h.eg) 0 _) 1 _, h.hg⟩
theorem CB.cells {C : Cf} {w w2 : World} {g : Nat} {n e : Int} (h : CB C w g n e w2) : w2.cell? ⟨g, 0, none⟩ = some (.int .i64 n) ∧ w2.cell? ⟨g, 1, none⟩ = some (.int .i64 e) ∧ w2.frozen? ⟨g, 0, none⟩ = false ∧ w2.frozen? ⟨g, 1, none⟩ = false := by
  refine ⟨?_, ?_, ?_, ?_⟩ <;> simp [World.cell?, World.frozen?, h.eg]
set_option maxRecDepth 100000 in
set_option maxHeartbeats 2000000 in
theorem Check_calls (C : Cf) (w : World) (hC : C.At w) (hL : C.Lim) : Calls Tryd.prog 16 #[.agg C.v] w fun e w' => e = .returned (.tuple #[.int .i64 (chkF C).1, .int .i64 (chkF C).2]) ∧ Below w.heap.size w w' := by
  have HC := Aside0.mk hC
  have HL := Aside0.mk hL
  clear hC hL
  have key : ∀ q : Int × Int, chkF C = q → Calls Tryd.prog 16 #[.agg C.v] w fun e w' => e = .returned (.tuple #[.int .i64 q.1, .int .i64 q.2]) ∧ Below w.heap.size w w' := by
    rintro ⟨qn, qe⟩ hq
    have HQ := Aside0.mk hq
    clear hq
    obtain ⟨e2, he2⟩ : ∃ x, r02F C.l0 = x := ⟨_, rfl⟩
    obtain ⟨⟨tn, te⟩, ht⟩ : ∃ x, tenF C = x := ⟨_, rfl⟩
    obtain ⟨⟨cn, ce⟩, hc⟩ : ∃ x, chaF C = x := ⟨_, rfl⟩
    obtain ⟨⟨un, ue⟩, hu⟩ : ∃ x, quoF C = x := ⟨_, rfl⟩
    obtain ⟨⟨gn, ge⟩, hg⟩ : ∃ x, gatF C = x := ⟨_, rfl⟩
    obtain ⟨⟨fn, fe⟩, hf⟩ : ∃ x, fraF C = x := ⟨_, rfl⟩
    obtain ⟨⟨bn, be⟩, hb⟩ : ∃ x, budF C = x := ⟨_, rfl⟩
    have H2 := Aside0.mk he2
    have HTN := Aside0.mk ht
    have HCH := Aside0.mk hc
    have HQU := Aside0.mk hu
    have HGA := Aside0.mk hg
    have HFR := Aside0.mk hf
    have HBU := Aside0.mk hb
    have HE : Aside0 ((qn, qe) = if e2 = 0 then nextT (nextT (nextT (nextT (nextT (tn, te) (cn, ce)) (un, ue)) (gn, ge)) (fn, fe)) (bn, be) else (0, e2)) := ⟨by rw [← HQ.out]; unfold chkF chkT; rw [he2, ht, hc, hu, hg, hf, hb]⟩
    clear he2 ht hc hu hg hf hb
    go_enter Tryd.func16, Tryd.ntmps16
    go_upto_region 1 with fail
    have HT := Aside0.mk (OB.start C w)
    generalize w.alloc (.cells C.v 28) = w2 at HT ⊢
    obtain ⟨A0, hA0⟩ : ∃ A, C.A0 = A := ⟨_, rfl⟩
    have HA0 := Aside0.mk hA0
    clear hA0
    have x0 := (cf_cell HT.out.e0).1
    rw [HA0.out] at x0
    by_cases h2 : e2 = 0
    · have d2 : (e2 != 0) = false := by simpa using h2
      have d2' : decide (e2 = 0) = true := decide_eq_true h2
      have HZ := Aside0.mk h2
      clear h2
      go_upto_region 4 with (first | (go_at_call 36; refine (rampartref02_Check.calls 1000 A0 C.c0 C.l0 e2 _ (by rw [← HA0.out]; exact (HC.out.below HT.out.b).r0) HC.out.h0 (by rw [R02_eq HL.out.u, H2.out])).mono ?_; rintro e wa ⟨rfl, hb⟩; have N1 := Aside0.mk hb; clear hb))
      have HT1 := Aside0.mk (HT.out.below N1.out)
      clear x0 d2 d2'
      go_upto_region 5 with (first | ((with_reducible refine gate_ (.load 28 (.tmp 1)) rfl ?_); refine load_blk rfl 28 (.tmp 1) rfl w.heap.size _ 28 rfl _ (HT1.out.e0) Tryd.underlying28 rfl (by kernel_rfl) ?_) | (go_at_call 37; refine (tenants_calls C _ (HC.out.below HT1.out.b) HL.out).mono ?_; rintro e wb ⟨rfl, hb⟩; rw [HTN.out]; have N2 := Aside0.mk hb; clear hb))
      have HT2 := Aside0.mk (HT1.out.below N2.out)
      have HS : Aside0 (CB C w wb.heap.size tn te (wb.alloc (.cells #[.int .i64 tn, .int .i64 te] 90))) := ⟨⟨HT2.out.b.alloc HT2.out.b.size _, (Below.heap_alloc _ _ _ (Array.getElem?_eq_some_iff.1 HT2.out.e0).1).trans HT2.out.e0, World.alloc_heap_new _ _, (Array.getElem?_eq_some_iff.1 HT2.out.e0).1⟩⟩
      generalize wb.alloc (.cells #[.int .i64 tn, .int .i64 te] 90) = ws at HS ⊢
      by_cases hz : te = 0
      · skip
        have HZt := Aside0.mk hz
        obtain ⟨z0, z1, f0, f1⟩ := HS.out.cells
        have d : (te == 0) = true := by simpa using hz
        have d' : decide (te = 0) = true := decide_eq_true hz
        have HTO : Aside0 (TenOK C) := ⟨(tenF_ok (by rw [HTN.out]; exact hz)).1⟩
        clear hz
        go_upto_region 7 with (first | ((with_reducible refine gate_ (.load 28 (.tmp 1)) rfl ?_); refine load_blk rfl 28 (.tmp 1) rfl w.heap.size _ 28 rfl _ (HS.out.e0) Tryd.underlying28 rfl (by kernel_rfl) ?_) | (go_at_call 38; refine (channels_calls C _ (HC.out.below HS.out.b) HL.out HTO.out).mono ?_; rintro e wz ⟨rfl, hb⟩; rw [HCH.out]; have NZ := Aside0.mk hb; obtain ⟨z0', z1', f0', f1'⟩ := (CB.cells ⟨HS.out.b.trans (hb.mono HS.out.b.size), obj_below hb HS.out.e0, obj_below hb HS.out.eg, HS.out.hg⟩ : _); clear hb))
        have HSN := Aside0.mk (HS.out.step (n' := cn) (e' := ce) NZ.out)
        clear z0 z1 f0 f1 z0' z1' f0' f1' d d' HS
        generalize ((wz.setCell ⟨wb.heap.size, 0, none⟩ (.int .i64 cn)).setCell ⟨wb.heap.size, 1, none⟩ (.int .i64 ce)) = ws at HSN ⊢
        have HS := HSN
        clear HSN NZ
        by_cases hz : ce = 0
        · skip
          have HZc := Aside0.mk hz
          obtain ⟨z0, z1, f0, f1⟩ := HS.out.cells
          have d : (ce == 0) = true := by simpa using hz
          have d' : decide (ce = 0) = true := decide_eq_true hz
          clear hz
          go_upto_region 9 with (first | ((with_reducible refine gate_ (.load 28 (.tmp 1)) rfl ?_); refine load_blk rfl 28 (.tmp 1) rfl w.heap.size _ 28 rfl _ (HS.out.e0) Tryd.underlying28 rfl (by kernel_rfl) ?_) | (go_at_call 39; refine (quotas_calls C _ (HC.out.below HS.out.b) HL.out).mono ?_; rintro e wz ⟨rfl, hb⟩; rw [HQU.out]; have NZ := Aside0.mk hb; obtain ⟨z0', z1', f0', f1'⟩ := (CB.cells ⟨HS.out.b.trans (hb.mono HS.out.b.size), obj_below hb HS.out.e0, obj_below hb HS.out.eg, HS.out.hg⟩ : _); clear hb))
          have HSN := Aside0.mk (HS.out.step (n' := un) (e' := ue) NZ.out)
          clear z0 z1 f0 f1 z0' z1' f0' f1' d d' HS
          generalize ((wz.setCell ⟨wb.heap.size, 0, none⟩ (.int .i64 un)).setCell ⟨wb.heap.size, 1, none⟩ (.int .i64 ue)) = ws at HSN ⊢
          have HS := HSN
          clear HSN NZ
          by_cases hz : ue = 0
          · skip
            have HZu := Aside0.mk hz
            obtain ⟨z0, z1, f0, f1⟩ := HS.out.cells
            have d : (ue == 0) = true := by simpa using hz
            have d' : decide (ue = 0) = true := decide_eq_true hz
            clear hz
            go_upto_region 11 with (first | ((with_reducible refine gate_ (.load 28 (.tmp 1)) rfl ?_); refine load_blk rfl 28 (.tmp 1) rfl w.heap.size _ 28 rfl _ (HS.out.e0) Tryd.underlying28 rfl (by kernel_rfl) ?_) | (go_at_call 40; refine (gates_calls C _ (HC.out.below HS.out.b) HL.out).mono ?_; rintro e wz ⟨rfl, hb⟩; rw [HGA.out]; have NZ := Aside0.mk hb; obtain ⟨z0', z1', f0', f1'⟩ := (CB.cells ⟨HS.out.b.trans (hb.mono HS.out.b.size), obj_below hb HS.out.e0, obj_below hb HS.out.eg, HS.out.hg⟩ : _); clear hb))
            have HSN := Aside0.mk (HS.out.step (n' := gn) (e' := ge) NZ.out)
            clear z0 z1 f0 f1 z0' z1' f0' f1' d d' HS
            generalize ((wz.setCell ⟨wb.heap.size, 0, none⟩ (.int .i64 gn)).setCell ⟨wb.heap.size, 1, none⟩ (.int .i64 ge)) = ws at HSN ⊢
            have HS := HSN
            clear HSN NZ
            by_cases hz : ge = 0
            · skip
              have HZg := Aside0.mk hz
              obtain ⟨z0, z1, f0, f1⟩ := HS.out.cells
              have d : (ge == 0) = true := by simpa using hz
              have d' : decide (ge = 0) = true := decide_eq_true hz
              clear hz
              go_upto_region 13 with (first | ((with_reducible refine gate_ (.load 28 (.tmp 1)) rfl ?_); refine load_blk rfl 28 (.tmp 1) rfl w.heap.size _ 28 rfl _ (HS.out.e0) Tryd.underlying28 rfl (by kernel_rfl) ?_) | (go_at_call 41; refine (frame_calls C _ (HC.out.below HS.out.b) HL.out HTO.out.1).mono ?_; rintro e wz ⟨rfl, hb⟩; rw [HFR.out]; have NZ := Aside0.mk hb; obtain ⟨z0', z1', f0', f1'⟩ := (CB.cells ⟨HS.out.b.trans (hb.mono HS.out.b.size), obj_below hb HS.out.e0, obj_below hb HS.out.eg, HS.out.hg⟩ : _); clear hb))
              have HSN := Aside0.mk (HS.out.step (n' := fn) (e' := fe) NZ.out)
              clear z0 z1 f0 f1 z0' z1' f0' f1' d d' HS
              generalize ((wz.setCell ⟨wb.heap.size, 0, none⟩ (.int .i64 fn)).setCell ⟨wb.heap.size, 1, none⟩ (.int .i64 fe)) = ws at HSN ⊢
              have HS := HSN
              clear HSN NZ
              by_cases hz : fe = 0
              · skip
                have HZf := Aside0.mk hz
                obtain ⟨z0, z1, f0, f1⟩ := HS.out.cells
                have d : (fe == 0) = true := by simpa using hz
                have d' : decide (fe = 0) = true := decide_eq_true hz
                clear hz
                go_upto_region 15 with (first | ((with_reducible refine gate_ (.load 28 (.tmp 1)) rfl ?_); refine load_blk rfl 28 (.tmp 1) rfl w.heap.size _ 28 rfl _ (HS.out.e0) Tryd.underlying28 rfl (by kernel_rfl) ?_) | (go_at_call 42; refine (budget_calls C _ (HC.out.below HS.out.b) HL.out).mono ?_; rintro e wz ⟨rfl, hb⟩; rw [HBU.out]; have NZ := Aside0.mk hb; obtain ⟨z0', z1', f0', f1'⟩ := (CB.cells ⟨HS.out.b.trans (hb.mono HS.out.b.size), obj_below hb HS.out.e0, obj_below hb HS.out.eg, HS.out.hg⟩ : _); clear hb))
                have HSN := Aside0.mk (HS.out.step (n' := bn) (e' := be) NZ.out)
                clear z0 z1 f0 f1 z0' z1' f0' f1' d d' HS
                generalize ((wz.setCell ⟨wb.heap.size, 0, none⟩ (.int .i64 bn)).setCell ⟨wb.heap.size, 1, none⟩ (.int .i64 be)) = ws at HSN ⊢
                have HS := HSN
                clear HSN NZ
                have eq := HE.out
                simp only [HZ.out, nextT, HZt.out, HZc.out, HZu.out, HZg.out, HZf.out, if_true] at eq
                simp only [Prod.mk.injEq] at eq
                obtain ⟨z0, z1, f0, f1⟩ := HS.out.cells
                go_quiet (fail)
                go_wp2
                go_ret2
                exact ⟨by rw [eq.1, eq.2]; rfl, pw_below_drewN HS.out.b _⟩
              · skip
                have eq := HE.out
                simp only [HZ.out, nextT, HZt.out, HZc.out, HZu.out, HZg.out, if_true, if_neg hz] at eq
                simp only [Prod.mk.injEq] at eq
                obtain ⟨z0, z1, f0, f1⟩ := HS.out.cells
                have d : (fe == 0) = false := by simpa using hz
                have d' : decide (fe = 0) = false := decide_eq_false hz
                clear hz
                go_wp2_with fail
                go_quiet (fail)
                go_wp2
                go_ret2
                exact ⟨by rw [eq.1, eq.2]; rfl, pw_below_drewN HS.out.b _⟩
            · skip
              have eq := HE.out
              simp only [HZ.out, nextT, HZt.out, HZc.out, HZu.out, if_true, if_neg hz] at eq
              simp only [Prod.mk.injEq] at eq
              obtain ⟨z0, z1, f0, f1⟩ := HS.out.cells
              have d : (ge == 0) = false := by simpa using hz
              have d' : decide (ge = 0) = false := decide_eq_false hz
              clear hz
              go_wp2_with fail
              go_quiet (fail)
              go_wp2
              go_ret2
              exact ⟨by rw [eq.1, eq.2]; rfl, pw_below_drewN HS.out.b _⟩
          · skip
            have eq := HE.out
            simp only [HZ.out, nextT, HZt.out, HZc.out, if_true, if_neg hz] at eq
            simp only [Prod.mk.injEq] at eq
            obtain ⟨z0, z1, f0, f1⟩ := HS.out.cells
            have d : (ue == 0) = false := by simpa using hz
            have d' : decide (ue = 0) = false := decide_eq_false hz
            clear hz
            go_wp2_with fail
            go_quiet (fail)
            go_wp2
            go_ret2
            exact ⟨by rw [eq.1, eq.2]; rfl, pw_below_drewN HS.out.b _⟩
        · skip
          have eq := HE.out
          simp only [HZ.out, nextT, HZt.out, if_true, if_neg hz] at eq
          simp only [Prod.mk.injEq] at eq
          obtain ⟨z0, z1, f0, f1⟩ := HS.out.cells
          have d : (ce == 0) = false := by simpa using hz
          have d' : decide (ce = 0) = false := decide_eq_false hz
          clear hz
          go_wp2_with fail
          go_quiet (fail)
          go_wp2
          go_ret2
          exact ⟨by rw [eq.1, eq.2]; rfl, pw_below_drewN HS.out.b _⟩
      · skip
        have eq := HE.out
        simp only [HZ.out, nextT, if_true, if_neg hz] at eq
        simp only [Prod.mk.injEq] at eq
        obtain ⟨z0, z1, f0, f1⟩ := HS.out.cells
        have d : (te == 0) = false := by simpa using hz
        have d' : decide (te = 0) = false := decide_eq_false hz
        clear hz
        go_wp2_with fail
        go_quiet (fail)
        go_wp2
        go_ret2
        exact ⟨by rw [eq.1, eq.2]; rfl, pw_below_drewN HS.out.b _⟩
      skip
    · have d2 : (e2 != 0) = true := by simpa using h2
      have d2' : decide (e2 = 0) = false := decide_eq_false h2
      have eq := HE.out
      rw [if_neg h2] at eq
      simp only [Prod.mk.injEq] at eq
      clear h2
      go_wp2_with (first | (go_at_call 36; refine (rampartref02_Check.calls 1000 A0 C.c0 C.l0 e2 _ (by rw [← HA0.out]; exact (HC.out.below HT.out.b).r0) HC.out.h0 (by rw [R02_eq HL.out.u, H2.out])).mono ?_; rintro e wa ⟨rfl, hb⟩; have N1 := Aside0.mk hb; clear hb))
      go_ret2
      exact ⟨by rw [eq.1, eq.2]; rfl, HT.out.b.trans (N1.out.mono HT.out.b.size)⟩
  exact key _ rfl
end Go.Proofs.YtoliipbmcekciaaDoor.QDd
namespace Go.Proofs.YtoliipbmcekciaaDoor.QDd
open Go.RowKit Go.Proofs.YtoliipbmcekciaaDoorW.PrintWords Go.Proofs.YtoliipbmcekciaaDoorW.PrintLast Go.Proofs.YtoliipbmcekciaaDoorW.PrintMore
open Go.Proofs.YtoliipbmcekciaaDoor.QDc (tk putL putN obj_below take_at yields_blk load_blk load_any store_blk blk_setCells setAll far_setCells below_setCells)
set_option linter.unusedVariables false
set_option linter.unusedSimpArgs false
theorem chk_r02 {C : Cf} (h : (chkF C).2 = 0) : r02F C.l0 = 0 ∧ (chkT C).2 = 0 := by
  unfold chkF at h
  by_cases hz : r02F C.l0 = 0
  · rw [if_pos hz] at h; exact ⟨hz, h⟩
  · rw [if_neg hz] at h; exact absurd h hz
theorem nextT_ok {t f : Int × Int} (h : (nextT t f).2 = 0) : t.2 = 0 ∧ f.2 = 0 := by
  unfold nextT at h
  by_cases hz : t.2 = 0
  · rw [if_pos hz] at h; exact ⟨hz, h⟩
  · rw [if_neg hz] at h; exact absurd h hz
structure Good (C : Cf) : Prop where
  r : r02F C.l0 = 0
  t : TenOK C
  t0 : C.l1.length ≠ 0
  c : ∀ i, i < C.l2.length → chE C i = 0
  f : C.l4.length ≤ 64 ∧ C.l4.length ≠ 0 ∧ ∀ i, i < C.l4.length → okFr C i = true
theorem chk_good {C : Cf} (h : (chkF C).2 = 0) : Good C := by
  obtain ⟨hr, ht⟩ := chk_r02 h
  obtain ⟨h1, hb⟩ := nextT_ok ht
  obtain ⟨h2, hf⟩ := nextT_ok h1
  obtain ⟨h3, hg⟩ := nextT_ok h2
  obtain ⟨h4, hq⟩ := nextT_ok h3
  obtain ⟨h5, hc⟩ := nextT_ok h4
  obtain ⟨hto, ht0⟩ := tenF_ok h5
  refine ⟨hr, hto, ht0, fun i hi => ?_, ?_⟩
  · unfold chaF at hc
    by_cases h32 : C.l2.length > 32
    · rw [if_pos h32] at hc; exact absurd hc (by decide)
    · rw [if_neg h32, toldOf_snd] at hc
      exact scan_zero _ _ hc i (Nat.zero_le _) (by omega)
  · unfold fraF at hf
    by_cases h64 : C.l4.length > 64
    · rw [if_pos h64] at hf; exact absurd hf (by decide)
    · rw [if_neg h64] at hf
      by_cases h0 : C.l4.length = 0
      · rw [if_pos h0] at hf; exact absurd hf (by decide)
      · rw [if_neg h0] at hf
        refine ⟨by omega, h0, fun i hi => ?_⟩
        have hs : sndOf (scan (fun i => if okFr C i = true then 0 else 47) 0 C.l4.length) = 0 := by
          cases hq2 : scan (fun i => if okFr C i = true then 0 else 47) 0 C.l4.length with
          | none => rfl
          | some p => rw [hq2] at hf; exact hf
        have := scan_zero _ _ hs i (Nat.zero_le _) (by omega)
        cases hb2 : okFr C i with
        | true => rfl
        | false => rw [hb2, if_neg (by decide)] at this; exact absurd this (by decide)
end Go.Proofs.YtoliipbmcekciaaDoor.QDd

namespace Go.Proofs.YtoliipbmcekciaaDoor.QDd
open Go.RowKit Go.Proofs.YtoliipbmcekciaaDoorW.PrintWords Go.Proofs.YtoliipbmcekciaaDoorW.PrintLast Go.Proofs.YtoliipbmcekciaaDoorW.PrintMore
open Go.Proofs.YtoliipbmcekciaaDoor.QDc (tk putL putN obj_below take_at yields_blk load_blk load_any store_blk blk_setCells setAll far_setCells below_setCells)
set_option linter.unusedVariables false
set_option linter.unusedSimpArgs false
structure OQ (C : Cf) (w w2 : World) : Prop where
  b : Below w.heap.size w w2
  e0 : w2.heap[w.heap.size]? = some (.cells C.v 122 (0, 0))
theorem OQ.start (C : Cf) (w : World) : OQ C w (w.alloc (.cells C.v 122)) := ⟨(Below.refl _ w).alloc (Nat.le_refl _) _, World.alloc_heap_new w _⟩
theorem cq_cell {C : Cf} {w : World} {g : Nat} (h : w.heap[g]? = some (.cells C.v 122 (0, 0))) : w.cell? ⟨g, 0, none⟩ = some (.slice C.A0 C.l0.length C.c0) ∧ w.cell? ⟨g, 1, none⟩ = some (.slice C.A1 C.l1.length C.c1) ∧ w.cell? ⟨g, 2, none⟩ = some (.slice C.A2 C.l2.length C.c2) ∧ w.cell? ⟨g, 3, none⟩ = some (.slice C.A3 C.l3.length C.c3) ∧ w.cell? ⟨g, 4, none⟩ = some (.slice C.A4 C.l4.length C.c4) ∧ w.cell? ⟨g, 5, none⟩ = some (.int .i64 C.a5) ∧ w.cell? ⟨g, 6, none⟩ = some (.int .i64 C.a6) ∧ w.cell? ⟨g, 7, none⟩ = some (.int .i64 C.a7) := by
  refine ⟨?_, ?_, ?_, ?_, ?_, ?_, ?_, ?_⟩ <;> simp [World.cell?, h]
structure TQ (C : Cf) (w w2 : World) : Prop where
  b : Below w.heap.size w w2
  e0 : w2.heap[w.heap.size]? = some (.cells C.v 122 (0, 0))
  e1 : w2.heap[w.heap.size + 1]? = some (.cells #[.int .i64 0, .int .i64 0] 126 (0, 0))
theorem TQ.start (C : Cf) (w : World) : TQ C w ((w.alloc (.cells C.v 122)).alloc (.cells #[.int .i64 0, .int .i64 0] 126)) :=
  ⟨((Below.refl _ w).alloc (Nat.le_refl _) _).alloc (by simp) _, (Below.heap_alloc _ _ _ (by simp)).trans (World.alloc_heap_new w _), by have := World.alloc_heap_new (w.alloc (.cells C.v 122)) (.cells #[.int .i64 0, .int .i64 0] 126); rwa [World.size_alloc] at this⟩
theorem TQ.below {C : Cf} {w w2 w3 : World} (h : TQ C w w2) (hb : Below w2.heap.size w2 w3) : TQ C w w3 := ⟨h.b.trans (hb.mono h.b.size), obj_below hb h.e0, obj_below hb h.e1⟩
theorem TQ.r {C : Cf} {w w2 : World} (h : TQ C w w2) : w2.cell? ⟨w.heap.size + 1, 0, none⟩ = some (.int .i64 0) ∧ w2.cell? ⟨w.heap.size + 1, 1, none⟩ = some (.int .i64 0) ∧ w2.frozen? ⟨w.heap.size + 1, 0, none⟩ = false ∧ w2.frozen? ⟨w.heap.size + 1, 1, none⟩ = false := by
  refine ⟨?_, ?_, ?_, ?_⟩ <;> simp [World.cell?, World.frozen?, h.e1]
theorem TQ.fin {C : Cf} {w wr : World} (h : TQ C w wr) (n e : Int) : Below w.heap.size w ((wr.setCell ⟨w.heap.size + 1, 0, none⟩ (.int .i64 n)).setCell ⟨w.heap.size + 1, 1, none⟩ (.int .i64 e)) ∧ ((wr.setCell ⟨w.heap.size + 1, 0, none⟩ (.int .i64 n)).setCell ⟨w.heap.size + 1, 1, none⟩ (.int .i64 e)).cell? ⟨w.heap.size + 1, 0, none⟩ = some (.int .i64 n) ∧ ((wr.setCell ⟨w.heap.size + 1, 0, none⟩ (.int .i64 n)).setCell ⟨w.heap.size + 1, 1, none⟩ (.int .i64 e)).cell? ⟨w.heap.size + 1, 1, none⟩ = some (.int .i64 e) := by
  have hh : ((wr.setCell ⟨w.heap.size + 1, 0, none⟩ (.int .i64 n)).setCell ⟨w.heap.size + 1, 1, none⟩ (.int .i64 e)).heap[w.heap.size + 1]? = some (.cells #[.int .i64 n, .int .i64 e] 126 (0, 0)) := blk_set (blk_set h.e1 0 _) 1 _
  exact ⟨(h.b.setCell (p := ⟨w.heap.size + 1, 0, none⟩) (by simp) _).setCell (p := ⟨w.heap.size + 1, 1, none⟩) (by simp) _, by simp [World.cell?, hh], by simp [World.cell?, hh]⟩
theorem win2_calls (n a b : Int) (w : World) : Calls Tryd.prog 100 #[.int .i64 n, .int .i64 a, .int .i64 b] w fun e w' => e = .returned (.bool (winB n a b)) ∧ w = w' := within_calls n a b w
theorem win_len (n : Int) (k : Nat) : winB n 0 ((k : Int) - 1) = decide (0 ≤ n ∧ n < (k : Int)) := by
  unfold winB
  rw [decide_eq_decide]
  omega
set_option maxRecDepth 100000 in
set_option maxHeartbeats 2000000 in
theorem lab2_calls (C : Cf) (n : Int) (w : World) (hn : C.l0.length ≤ 1000) : Calls Tryd.prog 99 #[.agg C.v, .int .i64 n] w fun e w' => e = .returned (.bool (isLB C n)) ∧ Below w.heap.size w w' := by
  go_enter Tryd.func99, Tryd.ntmps99
  go_upto_region 1 with fail
  have HO := Aside0.mk (OQ.start C w)
  generalize w.alloc (.cells C.v 122) = w2 at HO ⊢
  have x := (cq_cell HO.out.e0).1
  have hw : IntKind.i64.wrap ((C.l0.length : Int) - 1) = (C.l0.length : Int) - 1 := by rw [IntKind.wrap_i64]; omega
  have HW : Aside0 (winB n 0 ((C.l0.length : Int) - 1) = isLB C n) := ⟨win_len n _⟩
  go_wp2_with (go_at_call 100; refine (win2_calls _ _ _ _).mono ?_; rintro e w3 ⟨rfl, rfl⟩; rw [HW.out])
  go_ret
  exact ⟨rfl, HO.out.b⟩
set_option maxRecDepth 100000 in
set_option maxHeartbeats 2000000 in
theorem ten2_calls (C : Cf) (n : Int) (w : World) (hn : C.l1.length ≤ 1000) : Calls Tryd.prog 104 #[.agg C.v, .int .i64 n] w fun e w' => e = .returned (.bool (isTB C n)) ∧ Below w.heap.size w w' := by
  go_enter Tryd.func104, Tryd.ntmps104
  go_upto_region 1 with fail
  have HO := Aside0.mk (OQ.start C w)
  generalize w.alloc (.cells C.v 122) = w2 at HO ⊢
  have x := (cq_cell HO.out.e0).2.1
  have hw : IntKind.i64.wrap ((C.l1.length : Int) - 1) = (C.l1.length : Int) - 1 := by rw [IntKind.wrap_i64]; omega
  have HW : Aside0 (winB n 0 ((C.l1.length : Int) - 1) = isTB C n) := ⟨win_len n _⟩
  go_wp2_with (go_at_call 100; refine (win2_calls _ _ _ _).mono ?_; rintro e w3 ⟨rfl, rfl⟩; rw [HW.out])
  go_ret
  exact ⟨rfl, HO.out.b⟩
theorem shr_bit {s : Int} (hs : U64 s) {i : Nat} (hi : i < 64) : (bits .and .u64 (s / 2 ^ i) 1 == 1) = hasBit s (i : Int) := by
  obtain ⟨n, rfl⟩ := Int.eq_ofNat_of_zero_le hs.1
  have hn : n < 18446744073709551616 := by have := hs.2; omega
  rw [hasBit_nat n i hn hi]
  have e : ((n : Int) / 2 ^ i) = ((n / 2 ^ i : Nat) : Int) := by push_cast; rfl
  have hle : n / 2 ^ i ≤ n := Nat.div_le_self _ _
  rw [e, show (1 : Int) = ((1 : Nat) : Int) from rfl, bits_and_u64_nat _ 1 (by omega) (by decide), Nat.and_one_is_mod, Nat.testBit_eq_decide_div_mod_eq]
  rw [Bool.eq_iff_iff]
  simp
  omega
set_option maxRecDepth 100000 in
set_option maxHeartbeats 2000000 in
theorem flo2_calls (C : Cf) (a b : Int) (w : World) (hC : C.At w) (hL : C.Lim) (h0 : 0 ≤ a) (h1 : a < (C.l0.length : Int)) (h2 : 0 ≤ b) (h3 : b < 64) : Calls Tryd.prog 111 #[.agg C.v, .int .i64 a, .int .i64 b] w fun e w' => e = .returned (.bool (hasBit (rd C.l0 a) b)) ∧ Below w.heap.size w w' := by
  have HC := Aside0.mk hC
  obtain ⟨i, rfl⟩ := Int.eq_ofNat_of_zero_le h2
  have hh := shr_bit (hL.u64 h0 h1) (i := i) (by omega)
  clear hC hL
  generalize hsv : rd C.l0 a = s at hh ⊢
  have HSV := Aside0.mk hsv
  obtain ⟨q, hq⟩ : ∃ q, hasBit s (i : Int) = q := ⟨_, rfl⟩
  rw [hq] at hh ⊢
  have hh2 : decide (bits .and .u64 (s / 2 ^ i) 1 = 1) = q := by rw [← hh]; rw [Bool.eq_iff_iff]; simp
  have h64 : i < 64 := by omega
  have hmin : min i 64 = i := by omega
  clear hsv hq
  go_enter Tryd.func111, Tryd.ntmps111
  go_upto_region 1 with fail
  have HO := Aside0.mk (OQ.start C w)
  generalize w.alloc (.cells C.v 122) = w2 at HO ⊢
  have x0 := (cq_cell HO.out.e0).1
  obtain ⟨ad, eA, u0⟩ := Kd.at_int (HC.out.below HO.out.b).r0 a h0 h1
  rw [eA] at x0
  rw [HSV.out] at u0
  cases q <;> (go_wp2_with fail; go_ret; exact ⟨rfl, HO.out.b⟩)
set_option maxRecDepth 100000 in
theorem closure109_calls (x : S103) (t : Int) (b : Nat) (w : World) (hb : b < w.heap.size) (hc : w.cell? ⟨b, 0, none⟩ = some (.int .i64 t)) :
    Calls Tryd.prog 109 #[.agg #[.int .i64 x.f0, .int .i64 x.f1, .bool x.f2], .pointer (some ⟨b, 0, none⟩)] w fun e w' => e = .returned (.bool (decide (x.f0 = t))) ∧ Below w.heap.size w w' := by
  have hb' : b ≠ w.heap.size := by omega
  have hc' := World.new_ne w ⟨b, 0, none⟩ hc
  go_enter Tryd.func109, Tryd.ntmps109
  go_wp2
  go_ret
  exact ⟨rfl, (Below.refl _ w).alloc (Nat.le_refl _) _⟩
set_option maxRecDepth 100000 in
set_option maxHeartbeats 1000000 in
theorem index109_calls (A : Option Addr) (c : Nat) (l : List S103) (t : Int) (b : Nat) (w : World) (hn : l.length ≤ 1000000) (hr : k103.C w A l.length l) (hb : b < w.heap.size) (hc : w.cell? ⟨b, 0, none⟩ = some (.int .i64 t)) :
    Calls Tryd.prog 92 #[.slice A l.length c, .func (.func 109) #[] #[.pointer (some ⟨b, 0, none⟩)]] w fun e w' => e = .returned (.int .i64 (seek (l.map (·.f0)) t)) ∧ Below w.heap.size w w' := by
  have HR := Aside0.mk hr
  have HC := Aside0.mk hc
  have HB := Aside0.mk hb
  clear hr hc hb
  have H0 : Aside0 (Ix103 w l t 0 w) := ⟨⟨Below.refl _ _, Nat.zero_le _, fun j hj => absurd hj (by omega)⟩⟩
  go_enter Tryd.func92, Tryd.ntmps92
  go_wp2
  go_loopw [5, 8] (fun _ i wr => ∃ m : Nat, i = .int .i64 (m : Int) ∧ Aside0 (Ix103 w l t m wr)) (fun _ i _ => l.length - (intOf i).toNat)
  case atStart => exact ⟨0, rfl, H0⟩
  case round =>
    clear H0
    obtain ⟨m, rfl, hS⟩ := hrel
    by_cases h1 : (m : Int) < (l.length : Int)
    · have d1 : decide ((m : Int) < (l.length : Int)) = true := decide_eq_true h1
      have H1 := Aside0.mk h1
      have h0 : (0 : Int) ≤ (m : Int) := by omega
      obtain ⟨ad, eA, x0, x1, x2⟩ := at_T103 HR.out (m : Int) h0 h1
      subst eA
      replace x0 := pw_cell_below hS.out.1 x0
      replace x1 := pw_cell_below hS.out.1 x1
      replace x2 := pw_cell_below hS.out.1 x2
      rw [Int.toNat_natCast] at x0 x1 x2
      have hce := pw_cell_below hS.out.1 HC.out
      have hm2 : b < wr.heap.size := Nat.lt_of_lt_of_le HB.out hS.out.1.size
      have HM := Aside0.mk (And.intro hce hm2)
      clear hce hm2
      by_cases h2 : (rd_T103 l (m : Int)).f0 = t
      · have d2 : decide ((rd_T103 l (m : Int)).f0 = t) = true := decide_eq_true h2
        have H2 := Aside0.mk h2
        clear h2
        go_wp2_with (first | (go_at_call 109; refine (closure109_calls (rd_T103 l (m : Int)) t b _ HM.out.2 HM.out.1).mono ?_; rintro e w1 ⟨rfl, hB1⟩; rw [d2]; have HB1 := Aside0.mk hB1; clear hB1))
        go_ret
        refine ⟨?_, hS.out.1.trans (HB1.out.mono hS.out.1.size)⟩
        rw [seek_here m hS.out.2.2 (by rw [List.length_map]; have := H1.out; omega) (by rw [map_getD103 l m (by have := H1.out; omega)]; exact H2.out)]
        rfl
      · have d2 : decide ((rd_T103 l (m : Int)).f0 = t) = false := decide_eq_false h2
        have H2 := Aside0.mk h2
        clear h2
        go_wp2_with (first | (go_at_call 109; refine (closure109_calls (rd_T103 l (m : Int)) t b _ HM.out.2 HM.out.1).mono ?_; rintro e w1 ⟨rfl, hB1⟩; rw [d2]; have HB1 := Aside0.mk hB1; clear hB1))
        go_roundw
        case rel =>
          refine ⟨m + 1, by go_num, ⟨hS.out.1.trans (HB1.out.mono hS.out.1.size), by have := H1.out; omega, fun j hj => ?_⟩⟩
          by_cases hjm : j = m
          · subst hjm
            rw [map_getD103 l j (by have := H1.out; omega)]
            exact H2.out
          · exact hS.out.2.2 j (by omega)
        case measure => simp [intOf]; have := H1.out; omega
    · have d1 : decide ((m : Int) < (l.length : Int)) = false := decide_eq_false h1
      have H1 := Aside0.mk h1
      go_wp2
      go_ret
      refine ⟨?_, hS.out.1⟩
      rw [seek_none (fun j hj => hS.out.2.2 j (by rw [List.length_map] at hj; have := H1.out; have := hS.out.2.1; omega))]
      rfl

set_option maxRecDepth 100000 in
theorem closure112_calls (x : S105) (t : Int) (b : Nat) (w : World) (hb : b < w.heap.size) (hc : w.cell? ⟨b, 0, none⟩ = some (.int .i64 t)) :
    Calls Tryd.prog 112 #[.agg #[.int .i64 x.f0, .bool x.f1], .pointer (some ⟨b, 0, none⟩)] w fun e w' => e = .returned (.bool (decide (x.f0 = t))) ∧ Below w.heap.size w w' := by
  have hb' : b ≠ w.heap.size := by omega
  have hc' := World.new_ne w ⟨b, 0, none⟩ hc
  go_enter Tryd.func112, Tryd.ntmps112
  go_wp2
  go_ret
  exact ⟨rfl, (Below.refl _ w).alloc (Nat.le_refl _) _⟩
set_option maxRecDepth 100000 in
set_option maxHeartbeats 1000000 in
theorem index112_calls (A : Option Addr) (c : Nat) (l : List S105) (t : Int) (b : Nat) (w : World) (hn : l.length ≤ 1000000) (hr : k105.C w A l.length l) (hb : b < w.heap.size) (hc : w.cell? ⟨b, 0, none⟩ = some (.int .i64 t)) :
    Calls Tryd.prog 95 #[.slice A l.length c, .func (.func 112) #[] #[.pointer (some ⟨b, 0, none⟩)]] w fun e w' => e = .returned (.int .i64 (seek (l.map (·.f0)) t)) ∧ Below w.heap.size w w' := by
  have HR := Aside0.mk hr
  have HC := Aside0.mk hc
  have HB := Aside0.mk hb
  clear hr hc hb
  have H0 : Aside0 (Ix105 w l t 0 w) := ⟨⟨Below.refl _ _, Nat.zero_le _, fun j hj => absurd hj (by omega)⟩⟩
  go_enter Tryd.func95, Tryd.ntmps95
  go_wp2
  go_loopw [5, 8] (fun _ i wr => ∃ m : Nat, i = .int .i64 (m : Int) ∧ Aside0 (Ix105 w l t m wr)) (fun _ i _ => l.length - (intOf i).toNat)
  case atStart => exact ⟨0, rfl, H0⟩
  case round =>
    clear H0
    obtain ⟨m, rfl, hS⟩ := hrel
    by_cases h1 : (m : Int) < (l.length : Int)
    · have d1 : decide ((m : Int) < (l.length : Int)) = true := decide_eq_true h1
      have H1 := Aside0.mk h1
      have h0 : (0 : Int) ≤ (m : Int) := by omega
      obtain ⟨ad, eA, x0, x1⟩ := at_T105 HR.out (m : Int) h0 h1
      subst eA
      replace x0 := pw_cell_below hS.out.1 x0
      replace x1 := pw_cell_below hS.out.1 x1
      rw [Int.toNat_natCast] at x0 x1
      have hce := pw_cell_below hS.out.1 HC.out
      have hm2 : b < wr.heap.size := Nat.lt_of_lt_of_le HB.out hS.out.1.size
      have HM := Aside0.mk (And.intro hce hm2)
      clear hce hm2
      by_cases h2 : (rd_T105 l (m : Int)).f0 = t
      · have d2 : decide ((rd_T105 l (m : Int)).f0 = t) = true := decide_eq_true h2
        have H2 := Aside0.mk h2
        clear h2
        go_wp2_with (first | (go_at_call 112; refine (closure112_calls (rd_T105 l (m : Int)) t b _ HM.out.2 HM.out.1).mono ?_; rintro e w1 ⟨rfl, hB1⟩; rw [d2]; have HB1 := Aside0.mk hB1; clear hB1))
        go_ret
        refine ⟨?_, hS.out.1.trans (HB1.out.mono hS.out.1.size)⟩
        rw [seek_here m hS.out.2.2 (by rw [List.length_map]; have := H1.out; omega) (by rw [map_getD105 l m (by have := H1.out; omega)]; exact H2.out)]
        rfl
      · have d2 : decide ((rd_T105 l (m : Int)).f0 = t) = false := decide_eq_false h2
        have H2 := Aside0.mk h2
        clear h2
        go_wp2_with (first | (go_at_call 112; refine (closure112_calls (rd_T105 l (m : Int)) t b _ HM.out.2 HM.out.1).mono ?_; rintro e w1 ⟨rfl, hB1⟩; rw [d2]; have HB1 := Aside0.mk hB1; clear hB1))
        go_roundw
        case rel =>
          refine ⟨m + 1, by go_num, ⟨hS.out.1.trans (HB1.out.mono hS.out.1.size), by have := H1.out; omega, fun j hj => ?_⟩⟩
          by_cases hjm : j = m
          · subst hjm
            rw [map_getD105 l j (by have := H1.out; omega)]
            exact H2.out
          · exact hS.out.2.2 j (by omega)
        case measure => simp [intOf]; have := H1.out; omega
    · have d1 : decide ((m : Int) < (l.length : Int)) = false := decide_eq_false h1
      have H1 := Aside0.mk h1
      go_wp2
      go_ret
      refine ⟨?_, hS.out.1⟩
      rw [seek_none (fun j hj => hS.out.2.2 j (by rw [List.length_map] at hj; have := H1.out; have := hS.out.2.1; omega))]
      rfl
theorem seek_ge (l : List Int) (t : Int) : (0 ≤ seek l t) = (∃ j, j < l.length ∧ l.getD j 0 = t) := by
  apply propext
  constructor
  · intro h
    have h2 := seek_lt h
    refine ⟨_, h2, ?_⟩
    induction l with
    | nil => simp at h2
    | cons x l ih =>
      unfold seek at h h2 ⊢
      by_cases e : x = t
      · rw [if_pos e]; exact e
      · rw [if_neg e] at h h2 ⊢
        by_cases g : seek l t < 0
        · rw [if_pos g] at h; exact absurd h (by decide)
        · rw [if_neg g] at h h2 ⊢
          rw [show (seek l t + 1).toNat = (seek l t).toNat + 1 by omega] at h2 ⊢
          rw [List.getD_cons_succ]
          exact ih (by omega) (by simpa using h2)
  · rintro ⟨j, hj, e⟩
    by_cases h : 0 ≤ seek l t
    · exact h
    · exfalso
      induction l generalizing j with
      | nil => simp at hj
      | cons x l ih =>
        unfold seek at h
        by_cases e2 : x = t
        · rw [if_pos e2] at h; exact h (by decide)
        · rw [if_neg e2] at h
          cases j with
          | zero => exact e2 (by simpa using e)
          | succ j =>
            by_cases g : seek l t < 0
            · exact ih j (by simpa using hj) (by simpa using e) (by omega)
            · rw [if_neg g] at h; omega
theorem anyTo_iff (p : Nat → Bool) : ∀ n, anyTo p n = true ↔ ∃ k, k < n ∧ p k = true := by
  intro n
  constructor
  · intro h
    by_cases hx : ∃ k, k < n ∧ p k = true
    · exact hx
    · rw [anyTo_none n (fun k hk => by cases hb : p k with | false => rfl | true => exact absurd ⟨k, hk, hb⟩ hx)] at h
      exact absurd h (by decide)
  · rintro ⟨k, hk, hp⟩; exact anyTo_hit hp n hk
theorem take_getD {α : Type} (f : α → Int) (l : List α) (z : α) (m j : Nat) (hj : j < m) (hm : m ≤ l.length) : ((l.take m).map f).getD j 0 = f (l.getD j z) := by
  rw [List.getD_eq_getElem?_getD, List.getD_eq_getElem?_getD, List.getElem?_map, List.getElem?_take_of_lt hj, List.getElem?_eq_getElem (by omega)]
  rfl
theorem lanDup_seek (x : S87) (m : Nat) (hm : m ≤ x.f1.length) : decide (0 ≤ seek ((x.f1.take m).map (·.f0)) (lanT x m)) = lanDup x m := by
  rw [Bool.eq_iff_iff, decide_eq_true_eq, seek_ge]
  unfold lanDup
  rw [anyTo_iff]
  constructor
  · rintro ⟨j, hj, e⟩
    rw [List.length_map, List.length_take] at hj
    rw [take_getD _ _ z103 m j (by omega) hm] at e
    refine ⟨j, by omega, decide_eq_true ?_⟩
    unfold lanT rd_T103
    unfold lanT rd_T103 at e
    rw [Int.toNat_natCast]
    exact e
  · rintro ⟨k, hk, e⟩
    refine ⟨k, by rw [List.length_map, List.length_take]; omega, ?_⟩
    rw [take_getD _ _ z103 m k hk hm]
    have e := of_decide_eq_true e
    unfold lanT rd_T103 at e ⊢
    rw [Int.toNat_natCast] at e
    exact e
theorem recDup_seek (x : S87) (m : Nat) (hm : m ≤ x.f2.length) : decide (0 ≤ seek ((x.f2.take m).map (·.f0)) (recT x m)) = recDup x m := by
  rw [Bool.eq_iff_iff, decide_eq_true_eq, seek_ge]
  unfold recDup
  rw [anyTo_iff]
  constructor
  · rintro ⟨j, hj, e⟩
    rw [List.length_map, List.length_take] at hj
    rw [take_getD _ _ z105 m j (by omega) hm] at e
    refine ⟨j, by omega, decide_eq_true ?_⟩
    unfold recT rd_T105
    unfold recT rd_T105 at e
    rw [Int.toNat_natCast]
    exact e
  · rintro ⟨k, hk, e⟩
    refine ⟨k, by rw [List.length_map, List.length_take]; omega, ?_⟩
    rw [take_getD _ _ z105 m k hk hm]
    have e := of_decide_eq_true e
    unfold recT rd_T105 at e ⊢
    rw [Int.toNat_natCast] at e
    exact e
set_option maxRecDepth 100000 in
set_option maxHeartbeats 2000000 in
theorem contains110_calls (A : Option Addr) (c : Nat) (l : List S103) (t : Int) (b : Nat) (w : World) (hn : l.length ≤ 1000000) (hr : k103.C w A l.length l) (hb : b < w.heap.size) (hc : w.cell? ⟨b, 0, none⟩ = some (.int .i64 t)) :
    Calls Tryd.prog 110 #[.slice A l.length c, .func (.func 109) #[] #[.pointer (some ⟨b, 0, none⟩)]] w fun e w' => e = .returned (.bool (decide (0 ≤ seek (l.map (·.f0)) t))) ∧ Below w.heap.size w w' := by
  have HI := Aside0.mk (index109_calls A c l t b w hn hr hb hc)
  clear hr hb hc
  obtain ⟨s, hs⟩ : ∃ s, seek (l.map (·.f0)) t = s := ⟨_, rfl⟩
  rw [hs] at HI ⊢
  clear hs
  obtain ⟨q, hq⟩ : ∃ q, decide (0 ≤ s) = q := ⟨_, rfl⟩
  rw [hq]
  have hq' : decide (s ≥ 0) = q := hq
  go_enter Tryd.func110, Tryd.ntmps110
  cases q <;> (go_wp2_with (go_at_call 92; refine HI.out.mono ?_; rintro e w2 ⟨rfl, hB⟩; have N1 := Aside0.mk hB; clear hB); go_ret; exact ⟨rfl, N1.out⟩)
set_option maxRecDepth 100000 in
set_option maxHeartbeats 2000000 in
theorem contains113_calls (A : Option Addr) (c : Nat) (l : List S105) (t : Int) (b : Nat) (w : World) (hn : l.length ≤ 1000000) (hr : k105.C w A l.length l) (hb : b < w.heap.size) (hc : w.cell? ⟨b, 0, none⟩ = some (.int .i64 t)) :
    Calls Tryd.prog 113 #[.slice A l.length c, .func (.func 112) #[] #[.pointer (some ⟨b, 0, none⟩)]] w fun e w' => e = .returned (.bool (decide (0 ≤ seek (l.map (·.f0)) t))) ∧ Below w.heap.size w w' := by
  have HI := Aside0.mk (index112_calls A c l t b w hn hr hb hc)
  clear hr hb hc
  obtain ⟨s, hs⟩ : ∃ s, seek (l.map (·.f0)) t = s := ⟨_, rfl⟩
  rw [hs] at HI ⊢
  clear hs
  obtain ⟨q, hq⟩ : ∃ q, decide (0 ≤ s) = q := ⟨_, rfl⟩
  rw [hq]
  have hq' : decide (s ≥ 0) = q := hq
  go_enter Tryd.func113, Tryd.ntmps113
  cases q <;> (go_wp2_with (go_at_call 95; refine HI.out.mono ?_; rintro e w2 ⟨rfl, hB⟩; have N1 := Aside0.mk hB; clear hB); go_ret; exact ⟨rfl, N1.out⟩)
def IxI (w : World) (l : List Int) (t : Int) (m : Nat) (wr : World) : Prop := Below w.heap.size w wr ∧ m ≤ l.length ∧ ∀ j, j < m → l.getD j 0 ≠ t
theorem rd_getD (l : List Int) (m : Nat) : rd l (m : Int) = l.getD m 0 := rfl
set_option maxRecDepth 100000 in
set_option maxHeartbeats 2000000 in
theorem index114_calls (A : Option Addr) (c : Nat) (l : List Int) (t : Int) (w : World) (hn : l.length ≤ 1000000) (hr : (Kd.int .i64).C w A l.length l) :
    Calls Tryd.prog 114 #[.slice A l.length c, .int .i64 t] w fun e w' => e = .returned (.int .i64 (seek l t)) ∧ Below w.heap.size w w' := by
  have HR := Aside0.mk hr
  clear hr
  have H0 : Aside0 (IxI w l t 0 w) := ⟨⟨Below.refl _ _, Nat.zero_le _, fun j hj => absurd hj (by omega)⟩⟩
  go_enter Tryd.func114, Tryd.ntmps114
  go_wp2
  go_loopw [5, 8] (fun _ i wr => ∃ m : Nat, i = .int .i64 (m : Int) ∧ Aside0 (IxI w l t m wr)) (fun _ i _ => l.length - (intOf i).toNat)
  case atStart => exact ⟨0, rfl, H0⟩
  case round =>
    clear H0
    obtain ⟨m, rfl, hS⟩ := hrel
    by_cases h1 : (m : Int) < (l.length : Int)
    · have d1 : decide ((m : Int) < (l.length : Int)) = true := decide_eq_true h1
      have H1 := Aside0.mk h1
      have h0 : (0 : Int) ≤ (m : Int) := by omega
      obtain ⟨ad, eA, x0⟩ := Kd.at_int (Kd.C_below HR.out hS.out.1) (m : Int) h0 h1
      subst eA
      rw [Int.toNat_natCast] at x0
      obtain ⟨el, hel⟩ : ∃ x, rd l (m : Int) = x := ⟨_, rfl⟩
      rw [hel] at x0
      have HEL := Aside0.mk hel
      clear hel
      by_cases h2 : t = el
      · have d2 : (t == el) = true := by simpa using h2
        have d2' : decide (t = el) = true := decide_eq_true h2
        have H2 := Aside0.mk h2
        clear h2
        go_wp2_with fail
        go_ret
        exact ⟨by rw [seek_here m hS.out.2.2 (by have := H1.out; omega) (by rw [← rd_getD, HEL.out, H2.out])]; rfl, hS.out.1⟩
      · have d2 : (t == el) = false := by simpa using h2
        have d2' : decide (t = el) = false := decide_eq_false h2
        have H2 := Aside0.mk h2
        clear h2
        go_wp2_with fail
        go_roundw
        case rel =>
          refine ⟨m + 1, by go_num, ⟨hS.out.1, by have := H1.out; omega, fun j hj => ?_⟩⟩
          by_cases hjm : j = m
          · subst hjm
            rw [← rd_getD, HEL.out]
            exact fun h => H2.out h.symm
          · exact hS.out.2.2 j (by omega)
        case measure => simp [intOf]; have := H1.out; omega
    · have d1 : decide ((m : Int) < (l.length : Int)) = false := decide_eq_false h1
      have H1 := Aside0.mk h1
      go_wp2_with fail
      go_ret
      exact ⟨by rw [seek_none (fun j hj => hS.out.2.2 j (by have := H1.out; have := hS.out.2.1; omega))]; rfl, hS.out.1⟩
theorem any_seek (l : List Int) (t : Int) : decide (0 ≤ seek l t) = l.any (· == t) := by
  rw [Bool.eq_iff_iff, decide_eq_true_eq, seek_ge]
  rw [List.any_eq_true]
  constructor
  · rintro ⟨j, hj, e⟩
    rw [List.getD_eq_getElem?_getD, List.getElem?_eq_getElem hj] at e
    exact ⟨l[j], List.getElem_mem hj, by simpa using e⟩
  · rintro ⟨x, hx, e⟩
    obtain ⟨j, hj, rfl⟩ := List.getElem_of_mem hx
    exact ⟨j, hj, by rw [List.getD_eq_getElem?_getD, List.getElem?_eq_getElem hj]; simpa using e⟩
set_option maxRecDepth 100000 in
set_option maxHeartbeats 2000000 in
theorem contains105_calls (A : Option Addr) (c : Nat) (l : List Int) (t : Int) (w : World) (hn : l.length ≤ 1000000) (hr : (Kd.int .i64).C w A l.length l) :
    Calls Tryd.prog 105 #[.slice A l.length c, .int .i64 t] w fun e w' => e = .returned (.bool (l.any (· == t))) ∧ Below w.heap.size w w' := by
  have HI := Aside0.mk (index114_calls A c l t w hn hr)
  have HS := Aside0.mk (any_seek l t)
  clear hr
  rw [← HS.out]
  obtain ⟨s, hs⟩ : ∃ s, seek l t = s := ⟨_, rfl⟩
  rw [hs] at HI ⊢
  clear hs HS
  obtain ⟨q, hq⟩ : ∃ q, decide (0 ≤ s) = q := ⟨_, rfl⟩
  rw [hq]
  have hq' : decide (s ≥ 0) = q := hq
  go_enter Tryd.func105, Tryd.ntmps105
  cases q <;> (go_wp2_with (go_at_call 114; refine HI.out.mono ?_; rintro e w2 ⟨rfl, hB⟩; have N1 := Aside0.mk hB; clear hB); go_ret; exact ⟨rfl, N1.out⟩)
end Go.Proofs.YtoliipbmcekciaaDoor.QDd

