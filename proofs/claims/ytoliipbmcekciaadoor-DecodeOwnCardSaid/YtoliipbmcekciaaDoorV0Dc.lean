/- Decode: lemmas for the laws of ticks. -/
import Derived.Test.YtoliipbmcekciaaDoorADc
import Derived.Test.YtoliipbmcekciaaDoorNDc
import Derived.Test.YtoliipbmcekciaaDoorQDcx3
import Derived.Test.YtoliipbmcekciaaDoorKDc
namespace Go.Proofs.YtoliipbmcekciaaDoor.QDc
open Go.RowKit Go.Shelf Go.Proofs.YtoliipbmcekciaaDoorW.PrintWords Go.Proofs.YtoliipbmcekciaaDoorW.PrintLast Go.Proofs.YtoliipbmcekciaaDoorW.PrintMore
set_option linter.unusedVariables false
set_option linter.unusedSimpArgs false
theorem blk_below {w w' : World} {b : Nat} {o : Obj} (h : Below w.heap.size w w') (hb : w.heap[b]? = some o) : w'.heap[b]? = some o := obj_below h hb
theorem cutB_short (B : List (List Int)) : ∀ x ∈ cutB B, x.length ≤ 120 := by
  intro x hx
  unfold cutB at hx
  obtain ⟨y, _, rfl⟩ := List.mem_map.1 hx
  rw [List.length_take]
  omega
theorem same_self_l0 (l : List S75) (hn : l.length ≤ 1000) : ∀ (k m : Nat), l.length - m < k → m ≤ l.length → rampartref21_Same.l0 k l l m = some true
  | 0, m, h, _ => absurd h (by omega)
  | k + 1, m, h, hm => by
    unfold rampartref21_Same.l0
    by_cases h1 : m < l.length
    · rw [if_pos (by omega), if_pos (by omega), if_pos (by omega), if_neg (by simp), show wrap64 ((m : Int) + 1) = ((m + 1 : Nat) : Int) by unfold wrap64; omega]
      exact same_self_l0 l hn k (m + 1) (by omega) (by omega)
    · rw [if_neg (by omega)]
theorem same_self (l : List S75) (hn : l.length ≤ 1000) : rampartref21_Same.f 1001 l l = some true := by
  unfold rampartref21_Same.f
  rw [if_pos rfl]
  exact same_self_l0 l hn 1001 0 (by omega) (by omega)
end Go.Proofs.YtoliipbmcekciaaDoor.QDc
