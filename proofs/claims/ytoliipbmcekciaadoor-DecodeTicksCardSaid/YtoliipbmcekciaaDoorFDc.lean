/- Decode: what Split makes of any bytes, as a plain function. -/
import Derived.Test.YtoliipbmcekciaaDoorCDc
namespace Go.Proofs.YtoliipbmcekciaaDoor.QDc
open Go.RowKit Go.Proofs.YtoliipbmcekciaaDoorW.PrintWords Go.Proofs.YtoliipbmcekciaaDoorW.PrintLast Go.Proofs.YtoliipbmcekciaaDoorW.PrintMore
set_option linter.unusedVariables false
set_option linter.unusedSimpArgs false

/-- The pieces of bytes, at most so many. -/
def pcs (l : List Int) (most : Int) : List (List Int) := (List.range (min ((l.length + 15) / 16) most.toNat)).map (chunk l)
set_option maxRecDepth 100000 in
set_option maxHeartbeats 1000000 in
theorem Split_zero (A : Option Addr) (c : Nat) (most : Int) (w : World) : Calls Tryd.prog 60 #[.slice A 0 c, .int .i64 most] w fun e w' => e = .returned (.slice none 0 0) ∧ Below w.heap.size w w' := by
  go_enter Tryd.func60, Tryd.ntmps60
  go_wp2
  go_loopw [5, 6] (fun v i wr => v = .slice none 0 0 ∧ i = .int .i64 0 ∧ wr = w) (fun _ _ _ => 0)
  case atStart => exact ⟨rfl, rfl, rfl⟩
  case round =>
    obtain ⟨rfl, rfl, rfl⟩ := hrel
    go_wp2
    go_ret
    exact ⟨rfl, Below.refl _ _⟩
theorem Split_calls (A : Option Addr) (c : Nat) (l : List Int) (most : Int) (w : World) (hr : Kd.C (Kd.int .u8) w A l.length l) (hc : l.length ≤ c) (hn : l.length ≤ 1000) :
    Calls Tryd.prog 60 #[.slice A l.length c, .int .i64 most] w fun e w' => ∃ A' c', e = .returned (.slice A' (pcs l most).length c') ∧ (pcs l most).length ≤ c' ∧ Kd.C (Kd.slice 5 (Kd.int .u8)) w' A' (pcs l most).length (pcs l most) ∧ Below w.heap.size w w' := by
  by_cases h0 : l.length = 0
  · rw [h0]
    have e : pcs l most = [] := by unfold pcs; rw [h0, show min ((0 + 15) / 16) most.toNat = 0 by omega]; rfl
    rw [e]
    refine (Split_zero A c most w).mono ?_
    rintro e w' ⟨rfl, hb⟩
    exact ⟨none, 0, rfl, Nat.le_refl _, ⟨rfl, by simp, fun h => absurd h (by simp)⟩, hb⟩
  · obtain ⟨ad, rfl, _⟩ := Kd.at_int hr 0 (by omega) (by omega)
    refine (Split_walk ad c l.length most w hc hn).mono ?_
    rintro e w' ⟨v, m, rfl, hS, hx⟩
    have hm : m = min ((l.length + 15) / 16) most.toNat := by
      obtain ⟨_, _, h3, h4⟩ := hS
      omega
    obtain ⟨A', c', rfl, hc', hC⟩ := Split_reads hr hS
    have hl : (pcs l most).length = m := by unfold pcs; rw [List.length_map, List.length_range, hm]
    have hp : (List.range m).map (chunk l) = pcs l most := by unfold pcs; rw [hm]
    rw [hp] at hC
    rw [hl]
    exact ⟨A', c', rfl, hc', hC, hS.1⟩
end Go.Proofs.YtoliipbmcekciaaDoor.QDc
