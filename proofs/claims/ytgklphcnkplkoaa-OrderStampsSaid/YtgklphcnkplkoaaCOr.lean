/- OrderStamps: slices.Compact at stamps, walked by hand. -/
import Derived.Test.YtgklphcnkplkoaaBOr
namespace Go.Proofs.Ytgklphcnkplkoaa.QSt
open Go.RowKit Go.Proofs.YtgklphcnkplkoaaW.PrintWords Go.Proofs.YtgklphcnkplkoaaW.PrintLast Go.Proofs.YtgklphcnkplkoaaW.PrintMore
open Go.Proofs.Ytgklphcnkplkoaa.SK (St enc flat flat_len flat_get)
set_option linter.unusedVariables false
set_option linter.unusedSimpArgs false
/-- Block g holds these stamps, from its start on. -/
structure Row (g : Nat) (L : List St) (w : World) : Prop where
  blk : ∃ cur, w.heap[g]? = some (.cells cur 58 (0, 0)) ∧ L.length * 2 ≤ cur.size ∧ cur.toList.take (L.length * 2) = flat L
theorem Row.cell {g : Nat} {L : List St} {w : World} (h : Row g L w) (i : Nat) (hi : i < L.length) : ∀ j v, (cS (L.getD i (0, 0))).toList[j]? = some v → w.cell? (Addr.add ⟨g, i * 2, none⟩ j) = some v := by
  intro j v hj
  obtain ⟨cur, hb, hs, ht⟩ := h.blk
  have hj2 : j < 2 := by have := (List.getElem?_eq_some_iff.1 hj).1; simpa using this
  rw [Addr.add_mid]
  simp only [World.cell?, hb, Option.isSome_none, Bool.false_eq_true, if_false]
  have e : (cur.toList.take (L.length * 2))[i * 2 + j]? = (flat L)[i * 2 + j]? := by rw [ht]
  rw [List.getElem?_take, if_pos (by omega), Array.getElem?_toList, flat_get (0, 0) L (i * 2 + j) (by omega)] at e
  rw [e, show (i * 2 + j) / 2 = i by omega, show (i * 2 + j) % 2 = j by omega]
  rcases (show j = 0 ∨ j = 1 by omega) with rfl | rfl
  · simpa [enc] using hj
  · simpa [enc] using hj
theorem Row.below {g : Nat} {L : List St} {w w' : World} (h : Row g L w) (hb : Below w.heap.size w w') : Row g L w' := by
  obtain ⟨cur, h1, h2, h3⟩ := h.blk
  exact ⟨cur, obj_below hb h1, h2, h3⟩
theorem take_set {cur : List Value} {L : List St} {k : Nat} {x : St} (hk : k < L.length) (hs : L.length * 2 ≤ cur.length) (ht : cur.take (L.length * 2) = flat L) : ((cur.set (k * 2) (.int .i64 x.1)).set (k * 2 + 1) (.int .i64 x.2)).take (L.length * 2) = flat (L.set k x) := by
  apply List.ext_getElem?
  intro t
  by_cases h : t < L.length * 2
  · have e : (cur.take (L.length * 2))[t]? = (flat L)[t]? := by rw [ht]
    rw [List.getElem?_take, if_pos h, flat_get (0, 0) L t h] at e
    rw [List.getElem?_take, if_pos h, flat_get (0, 0) (L.set k x) t (by rw [List.length_set]; exact h)]
    by_cases hq : t / 2 = k
    · have e2 : (L.set k x).getD (t / 2) (0, 0) = x := by rw [hq, List.getD_eq_getElem?_getD, List.getElem?_set_self hk]; rfl
      rw [e2]
      rcases (show t = k * 2 ∨ t = k * 2 + 1 by omega) with rfl | rfl
      · rw [List.getElem?_set_ne (by omega), List.getElem?_set_self (by omega), show k * 2 % 2 = 0 by omega]; rfl
      · rw [List.getElem?_set_self (by rw [List.length_set]; omega), show (k * 2 + 1) % 2 = 1 by omega]; rfl
    · have e2 : (L.set k x).getD (t / 2) (0, 0) = L.getD (t / 2) (0, 0) := by rw [List.getD_eq_getElem?_getD, List.getElem?_set_ne (by omega), List.getD_eq_getElem?_getD]
      rw [e2, ← e, List.getElem?_set_ne (by omega), List.getElem?_set_ne (by omega)]
  · rw [List.getElem?_eq_none (by rw [List.length_take]; omega), List.getElem?_eq_none (by rw [flat_len, List.length_set]; omega)]
theorem Row.set {g : Nat} {L : List St} {w : World} (h : Row g L w) (k : Nat) (x : St) (hk : k < L.length) : Row g (L.set k x) (w.setCells g (k * 2) [.int .i64 x.1, .int .i64 x.2]) := by
  obtain ⟨cur, h1, h2, h3⟩ := h.blk
  refine ⟨_, blk_setCells [.int .i64 x.1, .int .i64 x.2] (k * 2) cur w h1, ?_, ?_⟩
  · simp only [setAll, Array.size_setIfInBounds, List.length_set]; exact h2
  · simp only [setAll, Array.toList_setIfInBounds, List.length_set]
    exact take_set hk (by simpa using h2) h3
theorem setAll_take : ∀ (zs : List Value) (cur : Array Value) (o n : Nat), n ≤ o → (setAll cur o zs).toList.take n = cur.toList.take n
  | [], _, _, _, _ => rfl
  | z :: zs, cur, o, n, h => by
    rw [setAll, setAll_take zs _ (o + 1) n (by omega), Array.toList_setIfInBounds]
    apply List.ext_getElem?
    intro i
    rw [List.getElem?_take, List.getElem?_take]
    split
    · rw [List.getElem?_set_ne (by omega)]
    · rfl
theorem setAll_size : ∀ (zs : List Value) (cur : Array Value) (o : Nat), (setAll cur o zs).size = cur.size
  | [], _, _ => rfl
  | z :: zs, cur, o => by rw [setAll, setAll_size zs, Array.size_setIfInBounds]
theorem flat_append (a b : List St) : flat (a ++ b) = flat a ++ flat b := by unfold flat; rw [List.flatMap_append]
theorem Row.pre {g : Nat} {C D : List St} {w : World} (h : Row g (C ++ D) w) (zs : List Value) : Row g C (w.setCells g (C.length * 2) zs) := by
  obtain ⟨cur, h1, h2, h3⟩ := h.blk
  rw [List.length_append] at h2 h3
  refine ⟨_, blk_setCells zs (C.length * 2) cur w h1, by rw [setAll_size]; omega, ?_⟩
  rw [setAll_take _ _ _ _ (Nat.le_refl _)]
  have e : (cur.toList.take ((C.length + D.length) * 2)).take (C.length * 2) = (flat (C ++ D)).take (C.length * 2) := by rw [h3]
  rw [List.take_take, Nat.min_eq_left (by omega), flat_append, List.take_append_of_le_length (by rw [flat_len]; omega), List.take_of_length_le (l := flat C) (by rw [flat_len]; omega)] at e
  exact e
theorem run_clear2 (w : World) (ty : TypeId) (g o n c : Nat) (hn : 0 < n) (hc : ∀ j, j < n * 2 → (w.cell? ⟨g, o + j, none⟩).isSome = true) (hf : ∀ j, j < n * 2 → w.frozen? ⟨g, o + j, none⟩ = false) :
    ∃ zs, (Builtin.clear_ #[60] ty #[.slice (some ⟨g, o, none⟩) n c]).run Try.prog w = .ok (.tuple #[]) (w.setCells g o zs) := by
  obtain ⟨m, rfl⟩ : ∃ m, n = m + 1 := ⟨n - 1, by omega⟩
  have hv : ∀ w, (zeroValue 58).run Try.prog w = .ok (.agg #[.int .i64 0, .int .i64 0]) w := fun w => by
    obtain ⟨i0, h1, h2, h3, h4⟩ := info_parts infoS58
    simp [zeroValue, typeInfo, h1, h2]
  have hst := run_storeCells_cells (P := Try.prog) g o (Builtin.zeroCells #[.int .i64 0, .int .i64 0] (m + 1)).toList 0 w (by simpa [Builtin.zeroCells] using hc) (by simpa [Builtin.zeroCells] using hf) (by
    intro v hv'
    simp [Builtin.zeroCells] at hv'
    obtain ⟨i, _, rfl⟩ := hv'
    rcases Nat.mod_two_eq_zero_or_one i with h | h <;> simp [h, Value.oneCell'])
  refine ⟨(Builtin.zeroCells #[.int .i64 0, .int .i64 0] (m + 1)).toList, ?_⟩
  simp only [Nat.add_zero] at hst
  simp [Builtin.clear_, run_underlying Try.underlying60, hv, Value.cells, hst]
end Go.Proofs.Ytgklphcnkplkoaa.QSt
