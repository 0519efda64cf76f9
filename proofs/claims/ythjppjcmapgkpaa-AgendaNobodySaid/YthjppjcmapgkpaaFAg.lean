/- Agenda: container/heap's up. Written by a program of this repo (tools/gen_ag3.py). -/
import Derived.Test.YthjppjcmapgkpaaEAg
namespace Go.Proofs.Ythjppjcmapgkpaa.QAg
open Go.RowKit Go.Proofs.YthjppjcmapgkpaaW.PrintWords Go.Proofs.YthjppjcmapgkpaaW.PrintLast Go.Proofs.YthjppjcmapgkpaaW.PrintMore
set_option linter.unusedVariables false
set_option linter.unusedSimpArgs false
/-- The heap's interface, over the agenda's row. -/
abbrev ifc (b : Nat) : Value := .iface 77 (.pointer (some ⟨b, 0, none⟩))
/-- The agenda, all its entries from B on. -/
structure Hq (w : World) (b B : Nat) (f m v : Value) (nx : Int) (n : Nat) (e : Nat → En) : Prop where
  hp : Hp w b B f m nx v n e
  bd : ∀ k, k < n → B ≤ (e k).g
theorem same_bd {B n : Nat} {e e' : Nat → En} (h : Same n e e') (hb : ∀ k, k < n → B ≤ (e k).g) : ∀ k, k < n → B ≤ (e' k).g := fun k hk => by
  obtain ⟨j, hj, e1⟩ := h.bwd k hk
  rw [← e1]
  exact hb j hj
/-- What up's loop keeps. -/
structure UpI (w0 : World) (b mb B : Nat) (m v : Value) (nx : Int) (n : Nat) (e : Nat → En) (j : Nat) (j0 : Nat) (e0 : Nat → En) (w : World) : Prop where
  hq : Hq w b B fLess m v nx n e0
  ag : Ag b mb B w0 w
  jn : j0 < n
  up : ∀ e', UpR LE e0 j0 e' → UpR LE e j e'
set_option maxRecDepth 100000 in
set_option maxHeartbeats 1000000 in
theorem up_calls {w : World} {b mb B : Nat} {m v : Value} {nx : Int} {n : Nat} {e : Nat → En} (h : Hq w b B fLess m v nx n e) {j : Nat} (hj : j < n) : Calls Try.prog 46 #[ifc b, .int .i64 (j : Int)] w fun r w' => r = .returned (.tuple #[]) ∧ ∃ e', UpR LE e j e' ∧ Hq w' b B fLess m v nx n e' ∧ Ag b mb B w w' := by
  have HI0 : Aside0 (UpI w b mb B m v nx n e j j e w) := ⟨⟨h, Ag.of_below (Below.refl _ _), hj, fun e' he => he⟩⟩
  have HN6 := Aside0.mk h.hp.n6
  clear h hj
  go_enter Try.func46, Try.ntmps46
  go_wp2
  go_loopw [1, 4] (fun jv _ wr => ∃ (j0 : Nat) (e0 : Nat → En), jv = .int .i64 (j0 : Int) ∧ Aside0 (UpI w b mb B m v nx n e j j0 e0 wr)) (fun jv _ _ => (intOf jv).toNat)
  case atStart => exact ⟨j, e, rfl, HI0⟩
  case round =>
    clear HI0
    obtain ⟨j0, e0, rfl, HS⟩ := hrel
    rcases Nat.eq_zero_or_pos j0 with rfl | hj0
    · have q1 : IntKind.i64.wrap ((0 : Int) - 1) = -1 := by rw [IntKind.wrap_i64]; omega
      go_wp2
      exact bodyPost_end (results_none rfl _ _ _) rfl ⟨rfl, e0, HS.out.up _ (UpR.top _), HS.out.hq, HS.out.ag⟩
    · have q1 : IntKind.i64.wrap ((j0 : Int) - 1) = (j0 : Int) - 1 := by have h1 := HS.out.jn; have h2 := HN6.out; rw [IntKind.wrap_i64]; omega
      have q1' : wrap64 ((j0 : Int) - 1) = (j0 : Int) - 1 := by have h1 := HS.out.jn; have h2 := HN6.out; unfold wrap64; omega
      have q2 : Int.tdiv ((j0 : Int) - 1) 2 = (par j0 : Int) := by unfold par; rw [Int.tdiv_eq_ediv_of_nonneg (by omega)]; omega
      have q3 : ((par j0 : Int) == (j0 : Int)) = false := by have := par_lt hj0; simp; omega
      have q4 : (par j0 == j0) = false := by have := par_lt hj0; simp; omega
      have HPN : Aside0 (par j0 < n) := ⟨by have := par_lt hj0; have := HS.out.jn; omega⟩
      have HJ0 := Aside0.mk hj0
      have HH : Aside0 (((par j0 : Nat) : Int).toNat < ((j0 : Nat) : Int).toNat) := ⟨by have := par_lt hj0; omega⟩
      have HPAR : Aside0 (∃ p, par j0 = p) := ⟨⟨_, rfl⟩⟩
      obtain ⟨p0, hp0⟩ := HPAR.out
      rw [hp0] at q2 q3 q4 HPN HH
      have HP0 := Aside0.mk hp0
      have q5 : wrap64 (p0 : Int) = (p0 : Int) := by have h1 := HPN.out; have h2 := HN6.out; unfold wrap64; omega
      clear hj0 hp0 HPAR
      cases hb : ltE (e0 j0) (e0 p0)
      · have HBB := Aside0.mk hb
        clear hb
        go_wp2_with (go_at_call 66; refine (Less_calls HS.out.hq.hp HS.out.jn HPN.out).mono ?_; rewrite [HBB.out]; rintro r w2 ⟨rfl, hl⟩; have HS2 : Aside0 (Hq w2 b B fLess m v nx n e0 ∧ Ag b mb B w w2) := ⟨⟨HS.out.hq.hp.below hl, HS.out.hq.bd⟩, HS.out.ag.trans (Ag.of_below hl)⟩; clear hl)
        exact bodyPost_end (results_none rfl _ _ _) rfl ⟨rfl, e0, HS.out.up _ (UpR.stop _ _ HJ0.out (by rw [HP0.out]; exact HBB.out.symm)), HS2.out.1, HS2.out.2⟩
      · have HBB := Aside0.mk hb
        clear hb
        go_wp2_with (first | (go_at_call 66; refine (Less_calls HS.out.hq.hp HS.out.jn HPN.out).mono ?_; rewrite [HBB.out]; rintro r w2 ⟨rfl, hl⟩; have HS2 : Aside0 (Hq w2 b B fLess m v nx n e0 ∧ Ag b mb B w w2) := ⟨⟨HS.out.hq.hp.below hl, HS.out.hq.bd⟩, HS.out.ag.trans (Ag.of_below hl)⟩; clear hl) | (go_at_call 69; refine (Swap_calls (mb := mb) HS2.out.1.hp HS2.out.1.bd HPN.out HS.out.jn).mono ?_; rintro r w3 ⟨rfl, hp3, hg3⟩; have HS3 : Aside0 (Hq w3 b B fLess m v nx n (swp e0 p0 j0) ∧ Ag b mb B w w3) := ⟨⟨hp3, same_bd (Same.swp HPN.out HS.out.jn e0) HS.out.hq.bd⟩, HS2.out.2.trans hg3⟩; clear hp3 hg3))
        go_roundw
        case rel => exact ⟨p0, swp e0 p0 j0, rfl, ⟨⟨HS3.out.1, HS3.out.2, HPN.out, fun e' he => HS.out.up _ (UpR.go _ _ _ HJ0.out (by rw [HP0.out]; exact HBB.out.symm) (by rw [HP0.out]; exact he))⟩⟩⟩
        case measure => exact HH.out
end Go.Proofs.Ythjppjcmapgkpaa.QAg
