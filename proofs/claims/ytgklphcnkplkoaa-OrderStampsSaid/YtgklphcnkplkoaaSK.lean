/- OrderStamps: rows of structs of two numbers: from 'owns its cells' to the sort's words, and back. -/
import Derived.Shelf.GgSortFunc.InsertionK
import Derived.Lib.OwnBridge
namespace Go.Proofs.Ytgklphcnkplkoaa.SK
open Go Go.Sort Go.RowKit
set_option linter.unusedVariables false
abbrev St := Int × Int
def enc (x : St) : List Value := [.int .i64 x.1, .int .i64 x.2]
def flat (l : List St) : List Value := l.flatMap enc
theorem flat_len : ∀ l : List St, (flat l).length = l.length * 2
  | [] => rfl
  | x :: l => by
    have := flat_len l
    unfold flat at *
    rw [List.flatMap_cons, List.length_append, this]
    simp [enc]; omega
theorem flat_get (z : St) : ∀ (l : List St) (t : Nat), t < l.length * 2 → (flat l)[t]? = some ((enc (l.getD (t / 2) z))[t % 2]!)
  | [], t, h => by simp at h
  | x :: l, t, h => by
    unfold flat
    rw [List.flatMap_cons]
    rcases t with _ | _ | t
    · rfl
    · rfl
    · rw [List.getElem?_append_right (by simp [enc])]
      have ih := flat_get z l t (by simp at h; omega)
      unfold flat at ih
      rw [show t + 1 + 1 - (enc x).length = t by simp [enc], ih]
      congr 2
      · rw [show (t + 1 + 1) / 2 = t / 2 + 1 by omega, List.getD_cons_succ]
      · omega
theorem flatK_get (l : List St) (t : Nat) (h : t < l.length * 2) : (flatK enc 2 l.toArray)[t]! = (enc (l.getD (t / 2) (0, 0)))[t % 2]! := by
  rw [get_flatK _ _ _ _ (by simpa using h)]
  congr 2
  have h2 : t / 2 < l.length := by omega
  rw [getElem!_pos _ _ (by simpa using h2), List.getD_eq_getElem?_getD, List.getElem?_eq_getElem h2]
  simp
/-- The block of a row of one's own. -/
theorem own_block {w : World} {base : Nat} {e : TypeId} {n cap g : Nat} {l : List St} (h : w.ownsRow base e 2 (.slice (some ⟨g, 0, none⟩) n cap) n (flat l)) : base ≤ g ∧ n ≤ cap ∧ cap ≤ maxLen ∧ l.length = n ∧ ∃ cur, w.heap[g]? = some (.cells cur e (0, 0)) ∧ cur.size = cap * 2 ∧ cur.toList.take (n * 2) = flat l := by
  have hl : l.length = n := by have := h.1; rw [flat_len] at this; omega
  rcases h.2 with ⟨e0, _⟩ | ⟨g', cap', cur, e0, hb, hg, hn, hm, hs, ht⟩
  · cases e0
  · injection e0 with e1 _ e3
    injection e1 with e1
    injection e1 with e1
    subst e1; subst e3
    exact ⟨hb, hn, hm, hl, cur, hg, hs, ht⟩
theorem holds_of_block {w : World} {e : TypeId} {n g : Nat} {l : List St} {cur : Array Value} (hl : l.length = n) (hg : w.heap[g]? = some (.cells cur e (0, 0))) (ht : cur.toList.take (n * 2) = flat l) : HoldsK enc 2 w g 0 l.toArray := by
  intro j hj
  have hj' : j < l.length * 2 := by simpa using hj
  refine ⟨?_, by simp [World.frozen?, hg]⟩
  have e1 : (cur.toList.take (n * 2))[j]? = (flat l)[j]? := by rw [ht]
  rw [List.getElem?_take, if_pos (by omega), Array.getElem?_toList, flat_get (0, 0) l j hj'] at e1
  simp only [World.cell?, hg, Nat.zero_add, Option.isSome_none, Bool.false_eq_true, if_false]
  rw [e1]
  simp only [id_eq]
  rw [flatK_get l j hj']
/-- What the sort leaves. -/
theorem block_sorted {w : World} {e : TypeId} {n g m : Nat} {l ys : List St} {os : Array Obj} {cur : Array Value} (hg : w.heap[g]? = some (.cells cur e (0, 0))) (hs : n * 2 ≤ cur.size) (hy : ys.length = n) :
    ∃ cur', (sortWorldK enc 2 w g 0 m ys.toArray os).heap[g]? = some (.cells cur' e (0, 0)) ∧ cur'.size = cur.size ∧ cur'.toList.take (n * 2) = flat ys := by
  refine ⟨putCells id 0 (flatK enc 2 ys.toArray) cur, ?_, by simp [putCells], ?_⟩
  · have hlt : g < w.heap.size := (Array.getElem?_eq_some_iff.1 hg).1
    unfold sortWorldK grow putRowK putRow mapBlock Sort.ahead
    rw [Array.getElem?_append_left (by simpa using hlt)]
    simp [Array.getElem?_modify, hg, onCells]
  · apply List.ext_getElem?
    intro j
    rw [List.getElem?_take, Array.getElem?_toList]
    by_cases hj : j < n * 2
    · have hjc : j < cur.size := by omega
      rw [if_pos hj, flat_get (0, 0) ys j (by omega)]
      simp only [putCells, Array.getElem?_mapIdx, Array.getElem?_eq_getElem hjc, Option.map_some]
      rw [if_pos (by simp; omega)]
      simp only [Nat.sub_zero, id_eq]
      rw [flatK_get ys j (by omega)]
    · rw [if_neg hj, List.getElem?_eq_none (by rw [flat_len]; omega)]
end Go.Proofs.Ytgklphcnkplkoaa.SK
