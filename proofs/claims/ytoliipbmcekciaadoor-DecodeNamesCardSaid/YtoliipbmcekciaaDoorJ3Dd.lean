/- Decode: the document's Opens is the program's (plain math). -/
import Derived.Test.YtoliipbmcekciaaDoorJDd
import Derived.Test.YtoliipbmcekciaaDoorQDdx4
namespace Go.Proofs.YtoliipbmcekciaaDoor.QDd
open Go.RowKit Go.Proofs.YtoliipbmcekciaaDoorW.PrintWords Go.Proofs.YtoliipbmcekciaaDoorW.PrintLast Go.Proofs.YtoliipbmcekciaaDoorW.PrintMore
set_option linter.unusedVariables false
set_option linter.unusedSimpArgs false
theorem rules5_eq (l : List S87) (n t r : Int) : Rules5B l n t r = (Rules3B l n t r && (opensLaneB l n t r && opensReceiverB l n t r)) := by
  unfold Rules5B Rules3B
  cases properB l n r <;> cases sendsB l n t r <;> cases receivesB l n t r <;> rfl
theorem ROpens_eq (l0 : List Int) (l1 : List S97) (l : List S87) (l3 : List S107) (l4 : List Int) (a5 a6 a7 t kd a r hd py : Int) (hs : Small l) (ha : U8 a) (hr : U8 r) (k : Nat) (hk : 1003 ≤ k) : rampartref21_Opens.f k l0 l1 l l3 l4 a5 a6 a7 t kd a r hd py = some (decide (kd = 1) && Rules5B l a t r) := by
  obtain ⟨k, rfl⟩ : ∃ m, k = m + 1 := ⟨k - 1, by omega⟩
  unfold rampartref21_Opens.f
  have ew : wrap64 a = a := by have := ha.1; have := ha.2; unfold wrap64; omega
  by_cases h1 : kd = 1
  · rw [if_pos h1, decide_eq_true h1, ew, RNamed_eq _ _ _ _ _ _ _ _ _ _ _ hs hr _ (by omega)]
    simp only [Option.bind_some]
    rw [rampartref21_Opens.j0, rules5_eq]
    cases hn : Rules3B l a t r with
    | false => rw [if_pos (show (!false) = true from rfl)]; rfl
    | true =>
      rw [if_neg (show ¬ (!true) = true from by decide), RLane_eq _ _ _ _ _ _ _ _ _ _ hs k (by omega), RReceiver_eq _ _ _ _ _ _ _ _ _ _ hs k (by omega)]
      simp only [Option.bind_some]
      rw [RHas1 hr k (by omega), RHas2 hr k (by omega)]
      simp only [Option.bind_some]
      unfold opensLaneB opensReceiverB
      have hrecv : 0 ≤ recvS l a t → (if 0 ≤ a then if a < (l.length : Int) then if 0 ≤ max (recvS l a t) 0 then if max (recvS l a t) 0 < (((rd_T87 l a).f2).length : Int) then some ((rd_T105 ((rd_T87 l a).f2) (max (recvS l a t) 0)).f1) else none else none else none else none) = some ((rd_T105 ((rd_T87 l a).f2) (recvS l a t)).f1) := by
        intro h
        obtain ⟨b0, b1, _, b3⟩ := recvS_in h
        rw [Int.max_eq_left h, if_pos b0, if_pos b1, if_pos h, if_pos b3]
      have hrecv2 : 0 ≤ recvS l a t → (if 0 ≤ max (recvS l a t) 0 then if max (recvS l a t) 0 < (((rd_T87 l a).f2).length : Int) then some ((rd_T105 ((rd_T87 l a).f2) (max (recvS l a t) 0)).f1) else none else none) = some ((rd_T105 ((rd_T87 l a).f2) (recvS l a t)).f1) := by
        intro h
        obtain ⟨b0, b1, _, b3⟩ := recvS_in h
        rw [Int.max_eq_left h, if_pos h, if_pos b3]
      cases h1b : hasB r 1 with
      | false =>
        rw [if_neg (by decide)]
        cases h2b : hasB r 2 with
        | false => rfl
        | true =>
          rw [if_pos rfl]
          by_cases hq : 0 ≤ recvS l a t
          · rw [decide_eq_true hq, if_pos rfl, hrecv hq]
            cases (rd_T105 ((rd_T87 l a).f2) (recvS l a t)).f1 <;> rfl
          · rw [decide_eq_false hq, if_neg (by decide)]
            rfl
      | true =>
        rw [if_pos rfl]
        by_cases hp : 0 ≤ laneS l a t
        · obtain ⟨b0, b1, _, b3⟩ := laneS_in hp
          rw [decide_eq_true hp, if_pos rfl, if_pos b0, if_pos b1, Int.max_eq_left hp, if_pos hp, if_pos b3]
          cases ho : (rd_T103 ((rd_T87 l a).f1) (laneS l a t)).f2 with
          | false => rw [if_neg (by decide)]; rfl
          | true =>
            rw [if_pos rfl]
            cases h2b : hasB r 2 with
            | false => rfl
            | true =>
              rw [if_pos rfl]
              by_cases hq : 0 ≤ recvS l a t
              · rw [decide_eq_true hq, if_pos rfl, hrecv2 hq]
                cases (rd_T105 ((rd_T87 l a).f2) (recvS l a t)).f1 <;> rfl
              · rw [decide_eq_false hq, if_neg (by decide)]
                rfl
        · rw [decide_eq_false hp, if_neg (by decide)]
          rfl
  · rw [if_neg h1, decide_eq_false h1, rampartref21_Opens.j0, if_pos rfl]
    rfl
end Go.Proofs.YtoliipbmcekciaaDoor.QDd
namespace Go.Proofs.YtoliipbmcekciaaDoor.QDd
open Go.RowKit Go.Proofs.YtoliipbmcekciaaDoorW.PrintWords Go.Proofs.YtoliipbmcekciaaDoorW.PrintLast Go.Proofs.YtoliipbmcekciaaDoorW.PrintMore
set_option linter.unusedVariables false
end Go.Proofs.YtoliipbmcekciaaDoor.QDd
