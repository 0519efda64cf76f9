/- Decode: the document's Named, Opens, Grants are the program's (plain math). -/
import Derived.Test.YtoliipbmcekciaaDoorGDd
import Derived.Test.YtoliipbmcekciaaDoorQDdx3
import Derived.Test.YtoliipbmcekciaaDoorMDd
import Derived.Test.YtoliipbmcekciaaDoorQDdx0
namespace Go.Proofs.YtoliipbmcekciaaDoor.QDd
open Go.RowKit Go.Proofs.YtoliipbmcekciaaDoorW.PrintWords Go.Proofs.YtoliipbmcekciaaDoorW.PrintLast Go.Proofs.YtoliipbmcekciaaDoorW.PrintMore
set_option linter.unusedVariables false
set_option linter.unusedSimpArgs false
theorem lane_l0 (t : Int) (l : List S103) (hn : l.length ≤ 1000) : ∀ (k m : Nat), l.length - m < k → m ≤ l.length → (∀ j, j < m → (l.map (·.f0)).getD j 0 ≠ t) → rampartref04_Lane.l0 k t l (m : Int) = some (max (seek (l.map (·.f0)) t) 0, decide (0 ≤ seek (l.map (·.f0)) t))
  | 0, m, h, _, _ => absurd h (by omega)
  | k + 1, m, h, hm, hj => by
    unfold rampartref04_Lane.l0
    by_cases h1 : m < l.length
    · rw [if_pos (by omega), if_pos (by omega)]
      by_cases h2 : (rd_T103 l (m : Int)).f0 = t
      · rw [if_pos h2, seek_here m hj (by rw [List.length_map]; exact h1) (by rw [map_getD103 l m h1]; exact h2), Int.max_eq_left (by omega), decide_eq_true (by omega)]
      · rw [if_neg h2, show wrap64 ((m : Int) + 1) = ((m + 1 : Nat) : Int) by unfold wrap64; omega]
        refine lane_l0 t l hn k (m + 1) (by omega) (by omega) fun j hj2 => ?_
        by_cases e : j = m
        · subst e; rw [map_getD103 l j h1]; exact h2
        · exact hj j (by omega)
    · rw [if_neg (by omega), seek_none (fun j hj2 => hj j (by rw [List.length_map] at hj2; omega))]
      rfl
theorem recv_l0 (t : Int) (l : List S105) (hn : l.length ≤ 1000) : ∀ (k m : Nat), l.length - m < k → m ≤ l.length → (∀ j, j < m → (l.map (·.f0)).getD j 0 ≠ t) → rampartref04_Receiver.l0 k t l (m : Int) = some (max (seek (l.map (·.f0)) t) 0, decide (0 ≤ seek (l.map (·.f0)) t))
  | 0, m, h, _, _ => absurd h (by omega)
  | k + 1, m, h, hm, hj => by
    unfold rampartref04_Receiver.l0
    by_cases h1 : m < l.length
    · rw [if_pos (by omega), if_pos (by omega)]
      by_cases h2 : (rd_T105 l (m : Int)).f0 = t
      · rw [if_pos h2, seek_here m hj (by rw [List.length_map]; exact h1) (by rw [map_getD105 l m h1]; exact h2), Int.max_eq_left (by omega), decide_eq_true (by omega)]
      · rw [if_neg h2, show wrap64 ((m : Int) + 1) = ((m + 1 : Nat) : Int) by unfold wrap64; omega]
        refine recv_l0 t l hn k (m + 1) (by omega) (by omega) fun j hj2 => ?_
        by_cases e : j = m
        · subst e; rw [map_getD105 l j h1]; exact h2
        · exact hj j (by omega)
    · rw [if_neg (by omega), seek_none (fun j hj2 => hj j (by rw [List.length_map] at hj2; omega))]
      rfl
theorem RLane_eq (l0 : List Int) (l1 : List S97) (l : List S87) (l3 : List S107) (l4 : List Int) (a5 a6 a7 n t : Int) (hs : Small l) (k : Nat) (hk : 1002 ≤ k) : rampartref04_Lane.f k l0 l1 l l3 l4 a5 a6 a7 n t = some (max (laneS l n t) 0, decide (0 ≤ laneS l n t)) := by
  obtain ⟨k, rfl⟩ : ∃ m, k = m + 1 := ⟨k - 1, by omega⟩
  unfold rampartref04_Lane.f laneS
  by_cases h0 : n < 0
  · rw [if_pos h0, rampartref04_Lane.j0, if_pos rfl, show chF l n = z87 from if_neg (fun h => by omega)]
    rfl
  · by_cases h1 : n ≥ (l.length : Int)
    · rw [if_neg h0, decide_eq_true h1, rampartref04_Lane.j0, if_pos rfl, show chF l n = z87 from if_neg (fun h => by omega)]
      rfl
    · have hin : 0 ≤ n ∧ n < (l.length : Int) := ⟨by omega, by omega⟩
      rw [if_neg h0, decide_eq_false h1, rampartref04_Lane.j0, if_neg (by decide), if_pos hin.1, if_pos hin.2]
      have e : chF l n = rd_T87 l n := if_pos hin
      have hle := (chF_small hs n).1
      rw [e] at hle ⊢
      exact lane_l0 t _ hle k 0 (by omega) (by omega) (fun j hj => absurd hj (by omega))
theorem RReceiver_eq (l0 : List Int) (l1 : List S97) (l : List S87) (l3 : List S107) (l4 : List Int) (a5 a6 a7 n t : Int) (hs : Small l) (k : Nat) (hk : 1002 ≤ k) : rampartref04_Receiver.f k l0 l1 l l3 l4 a5 a6 a7 n t = some (max (recvS l n t) 0, decide (0 ≤ recvS l n t)) := by
  obtain ⟨k, rfl⟩ : ∃ m, k = m + 1 := ⟨k - 1, by omega⟩
  unfold rampartref04_Receiver.f recvS
  by_cases h0 : n < 0
  · rw [if_pos h0, rampartref04_Receiver.j0, if_pos rfl, show chF l n = z87 from if_neg (fun h => by omega)]
    rfl
  · by_cases h1 : n ≥ (l.length : Int)
    · rw [if_neg h0, decide_eq_true h1, rampartref04_Receiver.j0, if_pos rfl, show chF l n = z87 from if_neg (fun h => by omega)]
      rfl
    · have hin : 0 ≤ n ∧ n < (l.length : Int) := ⟨by omega, by omega⟩
      rw [if_neg h0, decide_eq_false h1, rampartref04_Receiver.j0, if_neg (by decide), if_pos hin.1, if_pos hin.2]
      have e : chF l n = rd_T87 l n := if_pos hin
      have hle := (chF_small hs n).2
      rw [e] at hle ⊢
      exact recv_l0 t _ hle k 0 (by omega) (by omega) (fun j hj => absurd hj (by omega))
theorem mono_up {α : Type} {g : Nat → Option α} (hm : ∀ k, LeO (g k) (g (k + 1))) {r : α} {k : Nat} (h : g k = some r) : ∀ d, g (k + d) = some r
  | 0 => h
  | d + 1 => hm (k + d) r (mono_up hm h d)
theorem RHas_at {a b : Int} {r : Bool} (h : rampartref11_Has.f 9 a b = some r) (k : Nat) (hk : 9 ≤ k) : rampartref11_Has.f k a b = some r := by
  obtain ⟨d, rfl⟩ : ∃ d, k = 9 + d := ⟨k - 9, by omega⟩
  exact mono_up (g := fun k => rampartref11_Has.f k a b) (fun k => rampartref11_Has.mono a b k) h d
def U8 (r : Int) : Prop := 0 ≤ r ∧ r < 256
theorem U8.fin {r : Int} (h : U8 r) : ∃ a : Fin 256, r = (a.val : Int) := ⟨⟨r.toNat, by have := h.1; have := h.2; omega⟩, by have := h.1; simp; omega⟩
theorem RHas1 {r : Int} (h : U8 r) (k : Nat) (hk : 9 ≤ k) : rampartref11_Has.f k r 1 = some (hasB r 1) := by
  obtain ⟨a, rfl⟩ := h.fin
  exact RHas_at (has_consts a).1 k hk
theorem RHas2 {r : Int} (h : U8 r) (k : Nat) (hk : 9 ≤ k) : rampartref11_Has.f k r 2 = some (hasB r 2) := by
  obtain ⟨a, rfl⟩ := h.fin
  exact RHas_at (has_consts a).2.1 k hk
theorem RHas4 {r : Int} (h : U8 r) (k : Nat) (hk : 9 ≤ k) : rampartref11_Has.f k r 4 = some (bits .and .u8 r 4 != 0) := by
  obtain ⟨a, rfl⟩ := h.fin
  exact RHas_at (has_consts a).2.2 k hk
theorem RHasAll {r s : Int} (h : U8 r) (h2 : U8 s) (k : Nat) (hk : 9 ≤ k) : rampartref11_Has.f k r s = some (bits .and .u8 r s == s) := by
  obtain ⟨a, rfl⟩ := h.fin
  obtain ⟨b, rfl⟩ := h2.fin
  exact RHas_at (has_all a b) k hk
theorem RNamed_eq (l0 : List Int) (l1 : List S97) (l : List S87) (l3 : List S107) (l4 : List Int) (a5 a6 a7 n t r : Int) (hs : Small l) (hr : U8 r) (k : Nat) (hk : 1002 ≤ k) : rampartref21_Named.f k l0 l1 l l3 l4 a5 a6 a7 n t r = some (Rules3B l n t r) := by
  unfold rampartref21_Named.f
  rw [RLane_eq _ _ _ _ _ _ _ _ _ _ hs k hk, RReceiver_eq _ _ _ _ _ _ _ _ _ _ hs k hk]
  simp only [Option.bind_some]
  obtain ⟨k, rfl⟩ : ∃ m, k = m + 1 := ⟨k - 1, by omega⟩
  have ej : ∀ x, rampartref21_Named.j0 (k + 1) r (decide (0 ≤ laneS l n t)) (decide (0 ≤ recvS l n t)) x = if x = true then some false else some ((!hasB r 1 || decide (0 ≤ laneS l n t)) && (!hasB r 2 || decide (0 ≤ recvS l n t))) := by
    intro x
    rw [rampartref21_Named.j0, RHas1 hr k (by omega), RHas2 hr k (by omega)]
    simp only [Option.bind_some]
    cases x <;> cases hasB r 1 <;> cases hasB r 2 <;> cases decide (0 ≤ laneS l n t) <;> cases decide (0 ≤ recvS l n t) <;> rfl
  simp only [ej]
  unfold Rules3B properB sendsB receivesB
  obtain ⟨e1, e2⟩ : (bits .andNot .u8 r 7 == 0) = decide (r ≤ 7) ∧ (hasB r 1 || hasB r 2) = !(Int.tmod r 4 == 0) := by
    obtain ⟨a, rfl⟩ := hr.fin
    exact rights_proper a
  rw [e1, e2]
  by_cases h0 : n < 0
  · rw [if_pos h0, if_pos trivial, decide_eq_false (show ¬ 0 ≤ n by omega)]
    rfl
  · rw [if_neg h0, decide_eq_true (show 0 ≤ n by omega)]
    by_cases h1 : n ≥ (l.length : Int)
    · rw [if_pos h1, if_pos trivial, decide_eq_false (show ¬ n < (l.length : Int) by omega)]
      rfl
    · rw [if_neg h1, decide_eq_true (show n < (l.length : Int) by omega)]
      by_cases h2 : r > 7
      · rw [if_pos h2, if_pos trivial, decide_eq_false (show ¬ r ≤ 7 by omega)]
        rfl
      · rw [if_neg h2, decide_eq_true (show r ≤ 7 by omega)]
        cases Int.tmod r 4 == 0 <;> cases hasB r 1 <;> cases hasB r 2 <;> cases decide (0 ≤ laneS l n t) <;> cases decide (0 ≤ recvS l n t) <;> rfl
/-! #### struct type 28 -/
structure S28 where
  f0 : (List Int)
  f1 : (List S97)
  f2 : (List S87)
  f3 : (List S107)
  f4 : (List Int)
  f5 : Int
  f6 : Int
  f7 : Int
def z28 : S28 := ⟨([] : List Int), ([] : List S97), ([] : List S87), ([] : List S107), ([] : List Int), (0 : Int), (0 : Int), (0 : Int)⟩
def k28 : Kd S28 := Kd.iso (Kd.pair (Kd.slice 45 (Kd.int .u64)) (Kd.pair (Kd.slice 97 k97) (Kd.pair (Kd.slice 87 k87) (Kd.pair (Kd.slice 107 k107) (Kd.pair (Kd.slice 3 (Kd.int .i64)) (Kd.pair (Kd.int .i64) (Kd.pair (Kd.int .i64) (Kd.int .i64)))))))) (fun x : S28 => (x.f0, x.f1, x.f2, x.f3, x.f4, x.f5, x.f6, x.f7))
theorem k28_open {w : World} {x : S28} {cs : List Value} (h : k28.K w x cs) : ∃ A0 c0 A1 c1 A2 c2 A3 c3 A4 c4, cs = [.slice A0 x.f0.length c0, .slice A1 x.f1.length c1, .slice A2 x.f2.length c2, .slice A3 x.f3.length c3, .slice A4 x.f4.length c4, .int .i64 x.f5, .int .i64 x.f6, .int .i64 x.f7] ∧ x.f0.length ≤ c0 ∧ (Kd.int .u64).C w A0 x.f0.length x.f0 ∧ x.f1.length ≤ c1 ∧ k97.C w A1 x.f1.length x.f1 ∧ x.f2.length ≤ c2 ∧ k87.C w A2 x.f2.length x.f2 ∧ x.f3.length ≤ c3 ∧ k107.C w A3 x.f3.length x.f3 ∧ x.f4.length ≤ c4 ∧ (Kd.int .i64).C w A4 x.f4.length x.f4 := by
  obtain ⟨_, _, rfl, ⟨A0, c0, rfl, l0, g0⟩, ⟨_, _, rfl, ⟨A1, c1, rfl, l1, g1⟩, ⟨_, _, rfl, ⟨A2, c2, rfl, l2, g2⟩, ⟨_, _, rfl, ⟨A3, c3, rfl, l3, g3⟩, ⟨_, _, rfl, ⟨A4, c4, rfl, l4, g4⟩, ⟨_, _, rfl, rfl, ⟨_, _, rfl, rfl, rfl⟩⟩⟩⟩⟩⟩⟩ := h
  exact ⟨A0, c0, A1, c1, A2, c2, A3, c3, A4, c4, rfl, l0, g0, l1, g1, l2, g2, l3, g3, l4, g4⟩
theorem k28_openM {w : World} {base : Nat} {ok : Nat → Prop} {x : S28} {cs : List Value} (h : k28.M w base ok x cs) : ∃ v0 v1 v2 v3 v4, cs = [v0, v1, v2, v3, v4, .int .i64 x.f5, .int .i64 x.f6, .int .i64 x.f7] ∧ (Kd.int .u64).R 45 w base ok v0 x.f0 ∧ k97.R 97 w base ok v1 x.f1 ∧ k87.R 87 w base ok v2 x.f2 ∧ k107.R 107 w base ok v3 x.f3 ∧ (Kd.int .i64).R 3 w base ok v4 x.f4 := by
  obtain ⟨_, _, rfl, ⟨v0, rfl, g0⟩, ⟨_, _, rfl, ⟨v1, rfl, g1⟩, ⟨_, _, rfl, ⟨v2, rfl, g2⟩, ⟨_, _, rfl, ⟨v3, rfl, g3⟩, ⟨_, _, rfl, ⟨v4, rfl, g4⟩, ⟨_, _, rfl, rfl, ⟨_, _, rfl, rfl, rfl⟩⟩⟩⟩⟩⟩⟩ := h
  exact ⟨v0, v1, v2, v3, v4, rfl, g0, g1, g2, g3, g4⟩
theorem k28_mk (w : World) (x : S28) {A0 : Option Addr} {c0 : Nat} (l0 : x.f0.length ≤ c0) (g0 : (Kd.int .u64).C w A0 x.f0.length x.f0) {A1 : Option Addr} {c1 : Nat} (l1 : x.f1.length ≤ c1) (g1 : k97.C w A1 x.f1.length x.f1) {A2 : Option Addr} {c2 : Nat} (l2 : x.f2.length ≤ c2) (g2 : k87.C w A2 x.f2.length x.f2) {A3 : Option Addr} {c3 : Nat} (l3 : x.f3.length ≤ c3) (g3 : k107.C w A3 x.f3.length x.f3) {A4 : Option Addr} {c4 : Nat} (l4 : x.f4.length ≤ c4) (g4 : (Kd.int .i64).C w A4 x.f4.length x.f4) : k28.K w x [.slice A0 x.f0.length c0, .slice A1 x.f1.length c1, .slice A2 x.f2.length c2, .slice A3 x.f3.length c3, .slice A4 x.f4.length c4, .int .i64 x.f5, .int .i64 x.f6, .int .i64 x.f7] := ⟨[.slice A0 x.f0.length c0], [.slice A1 x.f1.length c1, .slice A2 x.f2.length c2, .slice A3 x.f3.length c3, .slice A4 x.f4.length c4, .int .i64 x.f5, .int .i64 x.f6, .int .i64 x.f7], rfl, ⟨A0, c0, rfl, l0, g0⟩, ⟨[.slice A1 x.f1.length c1], [.slice A2 x.f2.length c2, .slice A3 x.f3.length c3, .slice A4 x.f4.length c4, .int .i64 x.f5, .int .i64 x.f6, .int .i64 x.f7], rfl, ⟨A1, c1, rfl, l1, g1⟩, ⟨[.slice A2 x.f2.length c2], [.slice A3 x.f3.length c3, .slice A4 x.f4.length c4, .int .i64 x.f5, .int .i64 x.f6, .int .i64 x.f7], rfl, ⟨A2, c2, rfl, l2, g2⟩, ⟨[.slice A3 x.f3.length c3], [.slice A4 x.f4.length c4, .int .i64 x.f5, .int .i64 x.f6, .int .i64 x.f7], rfl, ⟨A3, c3, rfl, l3, g3⟩, ⟨[.slice A4 x.f4.length c4], [.int .i64 x.f5, .int .i64 x.f6, .int .i64 x.f7], rfl, ⟨A4, c4, rfl, l4, g4⟩, ⟨[.int .i64 x.f5], [.int .i64 x.f6, .int .i64 x.f7], rfl, rfl, ⟨[.int .i64 x.f6], [.int .i64 x.f7], rfl, rfl, rfl⟩⟩⟩⟩⟩⟩⟩
theorem k28_mkM (w : World) (base : Nat) (ok : Nat → Prop) (x : S28) {v0 : Value} (g0 : (Kd.int .u64).R 45 w base ok v0 x.f0) {v1 : Value} (g1 : k97.R 97 w base ok v1 x.f1) {v2 : Value} (g2 : k87.R 87 w base ok v2 x.f2) {v3 : Value} (g3 : k107.R 107 w base ok v3 x.f3) {v4 : Value} (g4 : (Kd.int .i64).R 3 w base ok v4 x.f4) : k28.M w base ok x [v0, v1, v2, v3, v4, .int .i64 x.f5, .int .i64 x.f6, .int .i64 x.f7] := ⟨[v0], [v1, v2, v3, v4, .int .i64 x.f5, .int .i64 x.f6, .int .i64 x.f7], rfl, ⟨v0, rfl, g0⟩, ⟨[v1], [v2, v3, v4, .int .i64 x.f5, .int .i64 x.f6, .int .i64 x.f7], rfl, ⟨v1, rfl, g1⟩, ⟨[v2], [v3, v4, .int .i64 x.f5, .int .i64 x.f6, .int .i64 x.f7], rfl, ⟨v2, rfl, g2⟩, ⟨[v3], [v4, .int .i64 x.f5, .int .i64 x.f6, .int .i64 x.f7], rfl, ⟨v3, rfl, g3⟩, ⟨[v4], [.int .i64 x.f5, .int .i64 x.f6, .int .i64 x.f7], rfl, ⟨v4, rfl, g4⟩, ⟨[.int .i64 x.f5], [.int .i64 x.f6, .int .i64 x.f7], rfl, rfl, ⟨[.int .i64 x.f6], [.int .i64 x.f7], rfl, rfl, rfl⟩⟩⟩⟩⟩⟩⟩
/-! #### struct type 55 -/
structure S55 where
  f0 : Int
  f1 : Int
  f2 : Int
  f3 : Int
  f4 : Int
def z55 : S55 := ⟨(0 : Int), (0 : Int), (0 : Int), (0 : Int), (0 : Int)⟩
def k55 : Kd S55 := Kd.iso (Kd.pair (Kd.int .u8) (Kd.pair (Kd.int .u8) (Kd.pair (Kd.int .u8) (Kd.pair (Kd.int .u32) (Kd.int .u64))))) (fun x : S55 => (x.f0, x.f1, x.f2, x.f3, x.f4))
theorem k55_open {w : World} {x : S55} {cs : List Value} (h : k55.K w x cs) : cs = [.int .u8 x.f0, .int .u8 x.f1, .int .u8 x.f2, .int .u32 x.f3, .int .u64 x.f4] := by
  obtain ⟨_, _, rfl, rfl, ⟨_, _, rfl, rfl, ⟨_, _, rfl, rfl, ⟨_, _, rfl, rfl, rfl⟩⟩⟩⟩ := h
  exact rfl
theorem k55_openM {w : World} {base : Nat} {ok : Nat → Prop} {x : S55} {cs : List Value} (h : k55.M w base ok x cs) : cs = [.int .u8 x.f0, .int .u8 x.f1, .int .u8 x.f2, .int .u32 x.f3, .int .u64 x.f4] := by
  obtain ⟨_, _, rfl, rfl, ⟨_, _, rfl, rfl, ⟨_, _, rfl, rfl, ⟨_, _, rfl, rfl, rfl⟩⟩⟩⟩ := h
  exact rfl
theorem k55_mk (w : World) (x : S55)  : k55.K w x [.int .u8 x.f0, .int .u8 x.f1, .int .u8 x.f2, .int .u32 x.f3, .int .u64 x.f4] := ⟨[.int .u8 x.f0], [.int .u8 x.f1, .int .u8 x.f2, .int .u32 x.f3, .int .u64 x.f4], rfl, rfl, ⟨[.int .u8 x.f1], [.int .u8 x.f2, .int .u32 x.f3, .int .u64 x.f4], rfl, rfl, ⟨[.int .u8 x.f2], [.int .u32 x.f3, .int .u64 x.f4], rfl, rfl, ⟨[.int .u32 x.f3], [.int .u64 x.f4], rfl, rfl, rfl⟩⟩⟩⟩
theorem k55_mkM (w : World) (base : Nat) (ok : Nat → Prop) (x : S55)  : k55.M w base ok x [.int .u8 x.f0, .int .u8 x.f1, .int .u8 x.f2, .int .u32 x.f3, .int .u64 x.f4] := ⟨[.int .u8 x.f0], [.int .u8 x.f1, .int .u8 x.f2, .int .u32 x.f3, .int .u64 x.f4], rfl, rfl, ⟨[.int .u8 x.f1], [.int .u8 x.f2, .int .u32 x.f3, .int .u64 x.f4], rfl, rfl, ⟨[.int .u8 x.f2], [.int .u32 x.f3, .int .u64 x.f4], rfl, rfl, ⟨[.int .u32 x.f3], [.int .u64 x.f4], rfl, rfl, rfl⟩⟩⟩⟩
/-! #### struct type 59 -/
structure S59 where
  f0 : Int
  f1 : Int
def z59 : S59 := ⟨(0 : Int), (0 : Int)⟩
def k59 : Kd S59 := Kd.iso (Kd.pair (Kd.int .i64) (Kd.int .u8)) (fun x : S59 => (x.f0, x.f1))
theorem k59_open {w : World} {x : S59} {cs : List Value} (h : k59.K w x cs) : cs = [.int .i64 x.f0, .int .u8 x.f1] := by
  obtain ⟨_, _, rfl, rfl, rfl⟩ := h
  exact rfl
theorem k59_openM {w : World} {base : Nat} {ok : Nat → Prop} {x : S59} {cs : List Value} (h : k59.M w base ok x cs) : cs = [.int .i64 x.f0, .int .u8 x.f1] := by
  obtain ⟨_, _, rfl, rfl, rfl⟩ := h
  exact rfl
theorem k59_mk (w : World) (x : S59)  : k59.K w x [.int .i64 x.f0, .int .u8 x.f1] := ⟨[.int .i64 x.f0], [.int .u8 x.f1], rfl, rfl, rfl⟩
theorem k59_mkM (w : World) (base : Nat) (ok : Nat → Prop) (x : S59)  : k59.M w base ok x [.int .i64 x.f0, .int .u8 x.f1] := ⟨[.int .i64 x.f0], [.int .u8 x.f1], rfl, rfl, rfl⟩

end Go.Proofs.YtoliipbmcekciaaDoor.QDd
namespace Go.Proofs.YtoliipbmcekciaaDoor.QDd
open Go.RowKit Go.Proofs.YtoliipbmcekciaaDoorW.PrintWords Go.Proofs.YtoliipbmcekciaaDoorW.PrintLast Go.Proofs.YtoliipbmcekciaaDoorW.PrintMore
open Go.Proofs.YtoliipbmcekciaaDoor.QDc (obj_below take_at yields_blk load_blk load_any store_blk blk_setCells setAll far_setCells below_setCells)
set_option linter.unusedVariables false
set_option linter.unusedSimpArgs false
theorem small_l0 (l : List S87) (hn : l.length ≤ 40) (x0 : List Int) (x1 : List S97) (x3 : List S107) (x4 : List Int) (a5 a6 a7 : Int) : ∀ (k m : Nat), l.length - m < k → m ≤ l.length → (∀ j, j < m → (rd_T87 l (j : Int)).f1.length ≤ 20 ∧ (rd_T87 l (j : Int)).f2.length ≤ 20) → ∃ b, rampartlaw21_small.l0 k (m : Int) x0 x1 l x3 x4 a5 a6 a7 = some b ∧ (b = true → ∀ j, j < l.length → (rd_T87 l (j : Int)).f1.length ≤ 20 ∧ (rd_T87 l (j : Int)).f2.length ≤ 20)
  | 0, m, h, _, _ => absurd h (by omega)
  | k + 1, m, h, hm, hj => by
    rw [rampartlaw21_small.l0]
    by_cases h1 : m < l.length
    · rw [if_pos (by omega), if_pos (by omega)]
      by_cases h2 : (((rd_T87 l (m : Int)).f1).length : Int) > 20
      · rw [if_pos h2]; exact ⟨false, rfl, fun h => absurd h (by decide)⟩
      · rw [if_neg h2]
        by_cases h3 : (((rd_T87 l (m : Int)).f2).length : Int) > 20
        · rw [if_pos h3]; exact ⟨false, rfl, fun h => absurd h (by decide)⟩
        · rw [if_neg h3, show wrap64 ((m : Int) + 1) = ((m + 1 : Nat) : Int) by unfold wrap64; omega]
          refine small_l0 l hn x0 x1 x3 x4 a5 a6 a7 k (m + 1) (by omega) (by omega) fun j hj2 => ?_
          by_cases e : j = m
          · subst e; exact ⟨by omega, by omega⟩
          · exact hj j (by omega)
    · rw [if_neg (by omega)]
      exact ⟨true, rfl, fun _ j hj2 => hj j (by omega)⟩
theorem small_total (x0 : List Int) (x1 : List S97) (l : List S87) (x3 : List S107) (x4 : List Int) (a5 a6 a7 : Int) : ∃ b, rampartlaw21_small.f 50 x0 x1 l x3 x4 a5 a6 a7 = some b ∧ (b = true → l.length ≤ 40 ∧ x0.length ≤ 20 ∧ x1.length ≤ 20 ∧ x3.length ≤ 20 ∧ x4.length ≤ 70 ∧ ∀ x ∈ l, x.f1.length ≤ 20 ∧ x.f2.length ≤ 20) := by
  have no : ∀ (k : Nat), rampartlaw21_small.j0 (k + 1) true x0 x1 l x3 x4 a5 a6 a7 = some false := fun k => by rw [rampartlaw21_small.j0, if_pos rfl]
  unfold rampartlaw21_small.f
  by_cases h1 : (l.length : Int) > 40
  · rw [if_pos h1]; exact ⟨false, no 49, fun h => absurd h (by decide)⟩
  rw [if_neg h1]
  by_cases h2 : (x0.length : Int) > 20
  · rw [if_pos h2]; exact ⟨false, no 49, fun h => absurd h (by decide)⟩
  rw [if_neg h2]
  by_cases h3 : (x1.length : Int) > 20
  · rw [if_pos h3]; exact ⟨false, no 49, fun h => absurd h (by decide)⟩
  rw [if_neg h3]
  by_cases h4 : (x3.length : Int) > 20
  · rw [if_pos h4]; exact ⟨false, no 49, fun h => absurd h (by decide)⟩
  rw [if_neg h4]
  by_cases h5 : (x4.length : Int) > 70
  · rw [decide_eq_true h5]; exact ⟨false, no 49, fun h => absurd h (by decide)⟩
  rw [decide_eq_false h5, rampartlaw21_small.j0, if_neg (by decide)]
  obtain ⟨b, hb, hh⟩ := small_l0 l (by omega) x0 x1 x3 x4 a5 a6 a7 49 0 (by omega) (by omega) (fun j hj => absurd hj (by omega))
  refine ⟨b, hb, fun e => ⟨by omega, by omega, by omega, by omega, by omega, fun x hx => ?_⟩⟩
  obtain ⟨j, hj, rfl⟩ := List.mem_iff_getElem.1 hx
  have := hh e j hj
  unfold rd_T87 at this
  rw [Int.toNat_natCast, List.getD_eq_getElem?_getD, List.getElem?_eq_getElem hj] at this
  exact this
theorem small_of {l : List S87} (h1 : l.length ≤ 40) (h2 : ∀ x ∈ l, x.f1.length ≤ 20 ∧ x.f2.length ≤ 20) : Small l := ⟨by omega, fun x hx => by have := h2 x hx; omega⟩
theorem u8_of {x : Int} (h : (Lit.int .u8 x).wf = true) : U8 x := by
  simp only [Lit.wf, IntKind.min, IntKind.max, IntKind.signed, IntKind.bits, Bool.and_eq_true, decide_eq_true_eq] at h
  unfold U8
  simp at h
  omega
end Go.Proofs.YtoliipbmcekciaaDoor.QDd
