/- Lane: is, at, claim. -/
import Derived.Test.YtglekbbdbnpohaaALn
namespace Go.Proofs.Ytglekbbdbnpohaa.QLn
open Go.RowKit Go.Proofs.YtglekbbdbnpohaaW.PrintWords Go.Proofs.YtglekbbdbnpohaaW.PrintLast Go.Proofs.YtglekbbdbnpohaaW.PrintMore
set_option linter.unusedVariables false
set_option linter.unusedSimpArgs false
theorem is_none (w : World) : Calls Try.prog 34 #[.pointer none] w fun e w' => e = .returned (.bool false) ∧ Below w.heap.size w w' := by
  go_enter Try.func34, Try.ntmps34
  go_wp2
  go_ret
  exact ⟨rfl, Below.refl _ _⟩
theorem is_calls (b : Nat) (s : LS) (w : World) (h : Ln w b s) : Calls Try.prog 34 #[.pointer (some ⟨b, 0, none⟩)] w fun e w' => e = .returned (.bool (decide (s.credit > 0))) ∧ Below w.heap.size w w' := by
  have c0 : w.cell? ⟨b, 0, none⟩ = some (.int .i64 s.credit) := h.cell 0 (by omega)
  clear h
  go_enter Try.func34, Try.ntmps34
  go_wp2
  go_ret
  exact ⟨rfl, Below.refl _ _⟩
set_option maxHeartbeats 1000000 in
theorem at_calls (b : Nat) (s : LS) (x : Int) (hx : U64 x) (hp : Pw s.size) (w : World) (h : Ln w b s) : Calls Try.prog 35 #[.pointer (some ⟨b, 0, none⟩), .int .u64 x] w fun e w' =>
    e = .returned (.pointer (some ⟨b, 4 + (x % s.size).toNat * 5, none⟩)) ∧ Below w.heap.size w w' := by
  have c3 : w.cell? ⟨b, 3, none⟩ = some (.int .i64 s.size) := h.cell 3 (by omega)
  have HL := Aside0.mk h
  have HX := Aside0.mk hx
  have HP := Aside0.mk hp
  have hb := hp.bds
  have i0 := Int.emod_nonneg x (show s.size ≠ 0 by omega)
  have i1 : x % s.size < 64 := by have := Int.emod_lt_of_pos x (show 0 < s.size by omega); omega
  clear h hx hp hb
  go_enter Try.func35, Try.ntmps35
  go_upto_region 2 with (go_at_call 44; refine (place_calls x s.size HX.out HP.out _).mono ?_; rintro e1 w1 ⟨rfl, hw1⟩)
  have HB := Aside0.mk hw1
  clear hw1 c3
  go_wp2
  go_ret
  exact ⟨rfl, HB.out⟩
theorem is_callsD (b : Nat) (s : LS) (w : World) (h : Ln w b s) : Calls Try.prog 34 #[.pointer (some ⟨b, 0, none⟩)] w fun e w' => e = .returned (.bool (decide (s.credit > 0))) ∧ ∃ nd, w' = w.drewN nd := by
  have c0 : w.cell? ⟨b, 0, none⟩ = some (.int .i64 s.credit) := h.cell 0 (by omega)
  clear h
  go_enter Try.func34, Try.ntmps34
  go_wp2
  go_ret
  exact ⟨rfl, 0, rfl⟩
set_option maxHeartbeats 1000000 in
theorem at_callsD (b : Nat) (s : LS) (x : Int) (hx : U64 x) (hp : Pw s.size) (w : World) (h : Ln w b s) : Calls Try.prog 35 #[.pointer (some ⟨b, 0, none⟩), .int .u64 x] w fun e w' =>
    e = .returned (.pointer (some ⟨b, 4 + (x % s.size).toNat * 5, none⟩)) ∧ ∃ nd, w' = w.drewN nd := by
  have c3 : w.cell? ⟨b, 3, none⟩ = some (.int .i64 s.size) := h.cell 3 (by omega)
  have HX := Aside0.mk hx
  have HP := Aside0.mk hp
  have hb := hp.bds
  have i0 := Int.emod_nonneg x (show s.size ≠ 0 by omega)
  have i1 : x % s.size < 64 := by have := Int.emod_lt_of_pos x (show 0 < s.size by omega); omega
  clear h hx hp hb
  go_enter Try.func35, Try.ntmps35
  go_upto_region 2 with (go_at_call 44; refine (order_Place.calls x s.size _ _ _ (place_f x s.size HX.out HP.out)).mono ?_; rintro e1 w1 ⟨rfl, ⟨nd, rfl⟩⟩)
  go_wp2
  go_ret
  exact ⟨rfl, nd, rfl⟩
end Go.Proofs.Ytglekbbdbnpohaa.QLn
