/- Decode: the document's pieces of a tick are the program's. -/
import Derived.Test.YtoliipbmcekciaaDoorJDc
namespace Go.Proofs.YtoliipbmcekciaaDoor.QDc
open Go.RowKit Go.Shelf Go.Proofs.YtoliipbmcekciaaDoorW.PrintWords Go.Proofs.YtoliipbmcekciaaDoorW.PrintLast Go.Proofs.YtoliipbmcekciaaDoorW.PrintMore
set_option linter.unusedVariables false
set_option linter.unusedSimpArgs false
def errOf (l : List Int) : Int := if (parse1 l).f1 = true then 0 else 30
theorem errOf_eq (l : List Int) : (errOf l == 0) = (parse1 l).f1 := by
  unfold errOf
  cases (parse1 l).f1 <;> rfl
theorem RParse_eq (l : List Int) (hb : ∀ x ∈ l, Byte x) : rampartref03_Parse.f 9 l = some ((parse1 l).f0.f0, (parse1 l).f0.f1, (parse1 l).f0.f2, (parse1 l).f0.f3, (parse1 l).f0.f4, errOf l) := by
  by_cases h : l.length = 16
  · obtain ⟨e1, e2⟩ := num_get l h hb
    by_cases h3 : rd l 3 = 0
    · cases hk : okReq (rd l 0) (rd l 1) (rd l 2) (get4 l % 4294967296) (get8 l) with
      | true =>
        have e : parse1 l = ⟨⟨rd l 0, rd l 1, rd l 2, get4 l % 4294967296, get8 l⟩, true⟩ := by unfold parse1; rw [if_pos ⟨h, h3, hk⟩]
        unfold rampartref03_Parse.f errOf
        rw [e, e1, e2]
        simp [h, h3, is_ok, hk]
      | false =>
        have e : parse1 l = ⟨⟨0, 0, 0, 0, 0⟩, false⟩ := by unfold parse1; rw [if_neg (fun h => by rw [hk] at h; exact absurd h.2.2 (by decide))]
        unfold rampartref03_Parse.f errOf
        rw [e, e1, e2]
        simp [h, h3, is_ok, hk]
    · have e : parse1 l = ⟨⟨0, 0, 0, 0, 0⟩, false⟩ := by unfold parse1; rw [if_neg (fun h => h3 h.2.1)]
      unfold rampartref03_Parse.f errOf
      rw [e, e1, e2]
      simp [h, h3]
  · have e : parse1 l = ⟨⟨0, 0, 0, 0, 0⟩, false⟩ := by unfold parse1; rw [if_neg (fun h' => h h'.1)]
    unfold rampartref03_Parse.f errOf
    rw [e, if_neg (by omega)]
    rfl
theorem LeO.up {α : Type} {f : Nat → Option α} (h : ∀ k, LeO (f k) (f (k + 1))) {k k' : Nat} (hk : k ≤ k') : LeO (f k) (f k') := by
  induction hk with
  | refl => exact LeO.refl _
  | step _ ih => exact ih.trans (h _)
theorem RParse_at (k : Nat) (hk : 9 ≤ k) (l : List Int) (hb : ∀ x ∈ l, Byte x) : rampartref03_Parse.f k l = some ((parse1 l).f0.f0, (parse1 l).f0.f1, (parse1 l).f0.f2, (parse1 l).f0.f3, (parse1 l).f0.f4, errOf l) :=
  LeO.up (f := fun k => rampartref03_Parse.f k l) (rampartref03_Parse.mono l) hk _ (RParse_eq l hb)
theorem RSplit_l0 (l : List Int) (most : Int) (hn : l.length ≤ 1000) : ∀ (k m : Nat), (l.length + 15) / 16 - m < k → m ≤ min ((l.length + 15) / 16) most.toNat → rampartref03_Split.l0 k (l.drop (16 * m)) most ((List.range m).map (chunk l)) = some (pcs l most)
  | 0, m, h, _ => absurd h (by omega)
  | k + 1, m, h, hm => by
    unfold rampartref03_Split.l0
    simp only [List.length_map, List.length_range, List.length_drop]
    by_cases h1 : 16 * m < l.length
    · by_cases h2 : (m : Int) < most
      · have e1 : (mn ((l.length - 16 * m : Nat) : Int) 16).toNat = min (l.length - 16 * m) 16 := by unfold mn; split <;> omega
        have e2 : 0 ≤ mn ((l.length - 16 * m : Nat) : Int) 16 := by unfold mn; split <;> omega
        have e3 : mn ((l.length - 16 * m : Nat) : Int) 16 ≤ ((l.length - 16 * m : Nat) : Int) := by unfold mn; split <;> omega
        have e4 : (l.drop (16 * m)).take (min (l.length - 16 * m) 16) = chunk l m := by
          unfold chunk
          rw [← List.length_drop, Nat.min_comm, ← List.take_take, List.take_length]
        have e5 : (l.drop (16 * m)).drop (min (l.length - 16 * m) 16) = l.drop (16 * (m + 1)) := by
          rw [List.drop_drop]
          by_cases h3 : l.length - 16 * m ≤ 16
          · rw [List.drop_eq_nil_of_le (by omega), List.drop_eq_nil_of_le (by omega)]
          · rw [show 16 * m + min (l.length - 16 * m) 16 = 16 * (m + 1) by omega]
        have e6 : (chunk l m).length ≤ 16 := by unfold chunk; rw [List.length_take]; omega
        rw [if_pos (by omega), if_pos h2]
        simp only [Option.bind_some, if_pos e2, if_pos e3, e1, e4, e5, List.nil_append, List.length_nil]
        rw [if_pos (by omega), if_pos (by omega)]
        have := RSplit_l0 l most hn k (m + 1) (by omega) (by omega)
        rw [List.range_succ, List.map_append] at this
        exact this
      · rw [if_pos (by omega), if_neg h2]
        have : m = min ((l.length + 15) / 16) most.toNat := by omega
        rw [this]
        rfl
    · rw [if_neg (by omega)]
      have : m = min ((l.length + 15) / 16) most.toNat := by omega
      rw [this]
      rfl
theorem RSplit_at (k : Nat) (hk : 70 ≤ k) (l : List Int) (most : Int) (hn : l.length ≤ 1000) : rampartref03_Split.f k l most = some (pcs l most) := by
  unfold rampartref03_Split.f
  exact RSplit_l0 l most hn k 0 (by omega) (by omega)
theorem chunk_byte {l : List Int} (hb : ∀ x ∈ l, Byte x) (i : Nat) : ∀ x ∈ chunk l i, Byte x := fun x hx => hb x (List.mem_of_mem_drop (List.mem_of_mem_take hx))
theorem pcs_byte {l : List Int} (hb : ∀ x ∈ l, Byte x) (most : Int) : ∀ p ∈ pcs l most, ∀ x ∈ p, Byte x := by
  intro p hp
  unfold pcs at hp
  obtain ⟨i, _, rfl⟩ := List.mem_map.1 hp
  exact chunk_byte hb i
theorem RTick_l0 (L : List (List Int)) (hn : L.length ≤ 1000) (hb : ∀ p ∈ L, ∀ x ∈ p, Byte x) : ∀ (k m : Nat), L.length - m + 10 < k → m ≤ L.length → rampartref21_Tick.l0 k L ((L.take m).map parse1) m = some (L.map parse1)
  | 0, m, h, _ => absurd h (by omega)
  | k + 1, m, h, hm => by
    unfold rampartref21_Tick.l0
    by_cases h1 : m < L.length
    · have e1 : rd_L1 L (m : Int) = L[m] := by unfold rd_L1; rw [Int.toNat_natCast, List.getD_eq_getElem?_getD, List.getElem?_eq_getElem h1]; rfl
      rw [if_pos (by omega), if_pos (by omega), e1, RParse_at k (by omega) _ (hb _ (List.getElem_mem h1))]
      simp only [Option.bind_some, List.length_map, List.length_take, errOf_eq]
      rw [if_pos (by omega)]
      have := RTick_l0 L hn hb k (m + 1) (by omega) (by omega)
      rw [List.take_succ_eq_append_getElem h1, List.map_append] at this
      rw [show wrap64 ((m : Int) + 1) = ((m + 1 : Nat) : Int) by unfold wrap64; omega]
      exact this
    · rw [if_neg (by omega), show m = L.length by omega, List.take_length]
theorem RTick_eq (l0_0 : List Int) (l0_1 : List S97) (l0_2 : List S87) (l0_3 : List S107) (l0_4 : List Int) (a0_5 a0_6 a0_7 : Int) (B : List (List Int)) (l1_1 : List Int) (owner : Int) (hshort : ∀ x ∈ B, x.length ≤ 1000) (hb : ∀ x ∈ B, ∀ y ∈ x, Byte y) :
    rampartref21_Tick.f 200 l0_0 l0_1 l0_2 l0_3 l0_4 a0_5 a0_6 a0_7 B l1_1 owner = some (items B owner a0_6) := by
  unfold rampartref21_Tick.f items
  by_cases h0 : owner < 0
  · rw [if_pos h0, if_pos (.inl h0)]
    rfl
  by_cases h1 : (B.length : Int) ≤ owner
  · rw [if_neg h0, if_pos h1, if_pos (.inr h1)]
    rfl
  rw [if_neg h0, if_neg (by omega), if_neg (by omega)]
  by_cases h2 : a0_6 < 1
  · have e : pcs (B.getD owner.toNat []) a0_6 = [] := by unfold pcs; rw [show a0_6.toNat = 0 by omega, Nat.min_zero]; rfl
    rw [e, decide_eq_true h2]
    rfl
  · have hm : B.getD owner.toNat [] ∈ B := by
      have hlt : owner.toNat < B.length := by omega
      rw [List.getD_eq_getElem?_getD, List.getElem?_eq_getElem hlt]
      exact List.getElem_mem hlt
    have hl := hshort _ hm
    rw [decide_eq_false h2]
    rw [show (200 : Nat) = 199 + 1 from rfl, rampartref21_Tick.j0]
    rw [if_neg (by decide), if_pos (by omega), if_pos (by omega), show rd_L1 B owner = B.getD owner.toNat [] from rfl, RSplit_at 199 (by omega) _ _ hl]
    simp only [Option.bind_some]
    have hp : (pcs (B.getD owner.toNat []) a0_6).length ≤ 63 := by unfold pcs; rw [List.length_map, List.length_range]; omega
    exact RTick_l0 _ (by omega) (pcs_byte (hb _ hm) _) 199 0 (by omega) (by omega)
end Go.Proofs.YtoliipbmcekciaaDoor.QDc
