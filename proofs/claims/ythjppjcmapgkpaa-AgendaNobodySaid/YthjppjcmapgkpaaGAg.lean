/- Agenda: container/heap's down. Written by a program of this repo (tools/gen_ag4.py). -/
import Derived.Test.YthjppjcmapgkpaaFAg
namespace Go.Proofs.Ythjppjcmapgkpaa.QAg
open Go.RowKit Go.Proofs.YthjppjcmapgkpaaW.PrintWords Go.Proofs.YthjppjcmapgkpaaW.PrintLast Go.Proofs.YthjppjcmapgkpaaW.PrintMore
set_option linter.unusedVariables false
set_option linter.unusedSimpArgs false
/-- What down's loop keeps. -/
structure DnI (w0 : World) (b mb B : Nat) (m v : Value) (nx : Int) (n N : Nat) (e : Nat → En) (i0 i : Nat) (e0 : Nat → En) (w : World) : Prop where
  hq : Hq w b B fLess m v nx n e0
  ag : Ag b mb B w0 w
  lt : i < N
  dn : ∀ e' f, DownR LE N e0 i e' f → DownR LE N e i0 e' f
set_option maxRecDepth 100000 in
set_option maxHeartbeats 2000000 in
theorem down_calls {w : World} {b mb B : Nat} {m v : Value} {nx : Int} {n N : Nat} {e : Nat → En} (h : Hq w b B fLess m v nx n e) (hN : N ≤ n) {i0 : Nat} (hi : i0 < N) : Calls Try.prog 48 #[ifc b, .int .i64 (i0 : Int), .int .i64 (N : Int)] w fun r w' => ∃ (e' : Nat → En) (f : Nat), r = .returned (.bool (decide (i0 < f))) ∧ DownR LE N e i0 e' f ∧ Hq w' b B fLess m v nx n e' ∧ Ag b mb B w w' := by
  have HI0 : Aside0 (DnI w b mb B m v nx n N e i0 i0 e w) := ⟨⟨h, Ag.of_below (Below.refl _ _), hi, fun e' f he => he⟩⟩
  have HN6 : Aside0 (N ≤ 1000000) := ⟨Nat.le_trans hN h.hp.n6⟩
  have HNn := Aside0.mk hN
  clear h hi hN
  go_enter Try.func48, Try.ntmps48
  go_wp2
  go_loopw [7, 8, 9, 10] (fun iv _ _ _ wr => ∃ (i : Nat) (e0 : Nat → En), iv = .int .i64 (i : Int) ∧ Aside0 (DnI w b mb B m v nx n N e i0 i e0 wr)) (fun iv _ _ _ _ => N - (intOf iv).toNat)
  case atStart => exact ⟨i0, e, rfl, HI0⟩
  case round =>
    clear HI0
    obtain ⟨i, e0, rfl, HS⟩ := hrel
    have hlt := HS.out.lt
    have hn6 := HN6.out
    have w1 : wrap64 (2 * (i : Int)) = 2 * (i : Int) := by unfold wrap64; omega
    have w1' : IntKind.i64.wrap (2 * (i : Int)) = 2 * (i : Int) := by rw [IntKind.wrap_i64]; omega
    obtain ⟨j1, hj1⟩ : ∃ j1, 2 * i + 1 = j1 := ⟨_, rfl⟩
    have w2 : wrap64 (2 * (i : Int) + 1) = (j1 : Int) := by unfold wrap64; omega
    have w2' : IntKind.i64.wrap (2 * (i : Int) + 1) = (j1 : Int) := by rw [IntKind.wrap_i64]; omega
    have n1 : decide ((j1 : Int) < 0) = false := decide_eq_false (by omega)
    by_cases hleaf : N ≤ j1
    · have g1 : decide ((j1 : Int) ≥ (N : Int)) = true := decide_eq_true (by omega)
      have g1' : decide (N ≤ j1) = true := decide_eq_true hleaf
      have g1'' : decide ((N : Int) ≤ (j1 : Int)) = true := decide_eq_true (by omega)
      have HL : Aside0 (N ≤ 2 * i + 1) := ⟨by omega⟩
      clear hlt hn6 hj1 hleaf
      go_wp2
      go_ret
      exact ⟨e0, i, rfl, HS.out.dn _ _ (DownR.leaf _ _ HL.out), HS.out.hq, HS.out.ag⟩
    · have g1 : decide ((j1 : Int) ≥ (N : Int)) = false := decide_eq_false (by omega)
      have g1' : decide (N ≤ j1) = false := decide_eq_false hleaf
      have g1'' : decide ((N : Int) ≤ (j1 : Int)) = false := decide_eq_false (by omega)
      obtain ⟨j2, hj2⟩ : ∃ j2, j1 + 1 = j2 := ⟨_, rfl⟩
      have w3 : wrap64 ((j1 : Int) + 1) = (j2 : Int) := by unfold wrap64; omega
      have w3' : IntKind.i64.wrap ((j1 : Int) + 1) = (j2 : Int) := by rw [IntKind.wrap_i64]; omega
      have HL1 : Aside0 (2 * i + 1 < N) := ⟨by omega⟩
      have HJ1 := Aside0.mk hj1
      have HJ1n : Aside0 (j1 < n) := ⟨by have := HNn.out; omega⟩
      have HIn : Aside0 (i < n) := ⟨by have := HNn.out; omega⟩
      by_cases h2 : j2 < N
      · have g2 : decide ((j2 : Int) < (N : Int)) = true := decide_eq_true (by omega)
        have g2' : decide (j2 < N) = true := decide_eq_true h2
        have HJ2 : Aside0 (2 * i + 2 = j2) := ⟨by omega⟩
        have HJ2n : Aside0 (j2 < n) := ⟨by have := HNn.out; omega⟩
        have HJ2N := Aside0.mk h2
        clear hlt hn6 hj1 hleaf hj2 h2
        cases hb : ltE (e0 j2) (e0 j1)
        · have HB1 := Aside0.mk hb
          have HKID : Aside0 (Kid LE N e0 i j1) := ⟨by rw [← HJ1.out]; exact Kid.left (by rw [HJ2.out]; exact HJ2N.out) (by rw [HJ2.out, HJ1.out]; exact HB1.out.symm)⟩
          clear hb
          have HSa := Aside0.mk HS.out
          cases hb : ltE (e0 j1) (e0 i)
          · have HB2 := Aside0.mk hb
            clear hb
            go_wp2_with (first | (go_at_call 66; refine (Less_calls HSa.out.hq.hp HJ2n.out HJ1n.out).mono ?_; rewrite [HB1.out]; rintro r w2 ⟨rfl, hl⟩; have HX : Aside0 (Hq w2 b B fLess m v nx n e0 ∧ Ag b mb B w w2) := ⟨⟨HS.out.hq.hp.below hl, HS.out.hq.bd⟩, HS.out.ag.trans (Ag.of_below hl)⟩; clear hl HSa) | (go_at_call 66; refine (Less_calls HX.out.1.hp HJ1n.out HIn.out).mono ?_; rewrite [HB2.out]; rintro r w4 ⟨rfl, hl⟩; have HY : Aside0 (Hq w4 b B fLess m v nx n e0 ∧ Ag b mb B w w4) := ⟨⟨HX.out.1.hp.below hl, HX.out.1.bd⟩, HX.out.2.trans (Ag.of_below hl)⟩; clear hl))
            go_ret
            exact ⟨e0, i, rfl, HS.out.dn _ _ (DownR.stop _ _ _ HL1.out HKID.out HB2.out.symm), HY.out.1, HY.out.2⟩
          · have HB2 := Aside0.mk hb
            have HM : Aside0 (N - ((j1 : Nat) : Int).toNat < N - ((i : Nat) : Int).toNat) := ⟨by have h1 := (HKID.out.lt HL1.out).1; have h2 := HS.out.lt; omega⟩
            clear hb
            go_wp2_with (first | (go_at_call 66; refine (Less_calls HSa.out.hq.hp HJ2n.out HJ1n.out).mono ?_; rewrite [HB1.out]; rintro r w2 ⟨rfl, hl⟩; have HX : Aside0 (Hq w2 b B fLess m v nx n e0 ∧ Ag b mb B w w2) := ⟨⟨HS.out.hq.hp.below hl, HS.out.hq.bd⟩, HS.out.ag.trans (Ag.of_below hl)⟩; clear hl HSa) | (go_at_call 66; refine (Less_calls HX.out.1.hp HJ1n.out HIn.out).mono ?_; rewrite [HB2.out]; rintro r w4 ⟨rfl, hl⟩; have HY : Aside0 (Hq w4 b B fLess m v nx n e0 ∧ Ag b mb B w w4) := ⟨⟨HX.out.1.hp.below hl, HX.out.1.bd⟩, HX.out.2.trans (Ag.of_below hl)⟩; clear hl) | (go_at_call 69; refine (Swap_calls (mb := mb) HY.out.1.hp HY.out.1.bd HIn.out HJ1n.out).mono ?_; rintro r w5 ⟨rfl, hp5, hg5⟩; have HZ : Aside0 (Hq w5 b B fLess m v nx n (swp e0 i j1) ∧ Ag b mb B w w5) := ⟨⟨hp5, same_bd (Same.swp HIn.out HJ1n.out e0) HY.out.1.bd⟩, HY.out.2.trans hg5⟩; clear hp5 hg5))
            go_roundw
            case rel => exact ⟨j1, swp e0 i j1, rfl, ⟨⟨HZ.out.1, HZ.out.2, (HKID.out.lt HL1.out).2.1, fun e' f he => HS.out.dn _ _ (DownR.go _ _ _ _ _ HL1.out HKID.out HB2.out.symm he)⟩⟩⟩
            case measure => exact HM.out
        · have HB1 := Aside0.mk hb
          have HKID : Aside0 (Kid LE N e0 i j2) := ⟨by rw [← HJ2.out]; exact Kid.right (by rw [HJ2.out]; exact HJ2N.out) (by rw [HJ2.out, HJ1.out]; exact HB1.out.symm)⟩
          clear hb
          have HSa := Aside0.mk HS.out
          cases hb : ltE (e0 j2) (e0 i)
          · have HB2 := Aside0.mk hb
            clear hb
            go_wp2_with (first | (go_at_call 66; refine (Less_calls HSa.out.hq.hp HJ2n.out HJ1n.out).mono ?_; rewrite [HB1.out]; rintro r w2 ⟨rfl, hl⟩; have HX : Aside0 (Hq w2 b B fLess m v nx n e0 ∧ Ag b mb B w w2) := ⟨⟨HS.out.hq.hp.below hl, HS.out.hq.bd⟩, HS.out.ag.trans (Ag.of_below hl)⟩; clear hl HSa) | (go_at_call 66; refine (Less_calls HX.out.1.hp HJ2n.out HIn.out).mono ?_; rewrite [HB2.out]; rintro r w4 ⟨rfl, hl⟩; have HY : Aside0 (Hq w4 b B fLess m v nx n e0 ∧ Ag b mb B w w4) := ⟨⟨HX.out.1.hp.below hl, HX.out.1.bd⟩, HX.out.2.trans (Ag.of_below hl)⟩; clear hl))
            go_ret
            exact ⟨e0, i, rfl, HS.out.dn _ _ (DownR.stop _ _ _ HL1.out HKID.out HB2.out.symm), HY.out.1, HY.out.2⟩
          · have HB2 := Aside0.mk hb
            have HM : Aside0 (N - ((j2 : Nat) : Int).toNat < N - ((i : Nat) : Int).toNat) := ⟨by have h1 := (HKID.out.lt HL1.out).1; have h2 := HS.out.lt; omega⟩
            clear hb
            go_wp2_with (first | (go_at_call 66; refine (Less_calls HSa.out.hq.hp HJ2n.out HJ1n.out).mono ?_; rewrite [HB1.out]; rintro r w2 ⟨rfl, hl⟩; have HX : Aside0 (Hq w2 b B fLess m v nx n e0 ∧ Ag b mb B w w2) := ⟨⟨HS.out.hq.hp.below hl, HS.out.hq.bd⟩, HS.out.ag.trans (Ag.of_below hl)⟩; clear hl HSa) | (go_at_call 66; refine (Less_calls HX.out.1.hp HJ2n.out HIn.out).mono ?_; rewrite [HB2.out]; rintro r w4 ⟨rfl, hl⟩; have HY : Aside0 (Hq w4 b B fLess m v nx n e0 ∧ Ag b mb B w w4) := ⟨⟨HX.out.1.hp.below hl, HX.out.1.bd⟩, HX.out.2.trans (Ag.of_below hl)⟩; clear hl) | (go_at_call 69; refine (Swap_calls (mb := mb) HY.out.1.hp HY.out.1.bd HIn.out HJ2n.out).mono ?_; rintro r w5 ⟨rfl, hp5, hg5⟩; have HZ : Aside0 (Hq w5 b B fLess m v nx n (swp e0 i j2) ∧ Ag b mb B w w5) := ⟨⟨hp5, same_bd (Same.swp HIn.out HJ2n.out e0) HY.out.1.bd⟩, HY.out.2.trans hg5⟩; clear hp5 hg5))
            go_roundw
            case rel => exact ⟨j2, swp e0 i j2, rfl, ⟨⟨HZ.out.1, HZ.out.2, (HKID.out.lt HL1.out).2.1, fun e' f he => HS.out.dn _ _ (DownR.go _ _ _ _ _ HL1.out HKID.out HB2.out.symm he)⟩⟩⟩
            case measure => exact HM.out
      · have g2 : decide ((j2 : Int) < (N : Int)) = false := decide_eq_false (by omega)
        have g2' : decide (j2 < N) = false := decide_eq_false h2
        have HKID : Aside0 (Kid LE N e0 i j1) := ⟨by rw [← hj1]; exact Kid.one (by omega)⟩
        clear hlt hn6 hj1 hleaf hj2 h2
        cases hb : ltE (e0 j1) (e0 i)
        · have HB2 := Aside0.mk hb
          clear hb
          go_wp2_with (first | (go_at_call 66; refine (Less_calls HS.out.hq.hp HJ1n.out HIn.out).mono ?_; rewrite [HB2.out]; rintro r w4 ⟨rfl, hl⟩; have HY : Aside0 (Hq w4 b B fLess m v nx n e0 ∧ Ag b mb B w w4) := ⟨⟨HS.out.hq.hp.below hl, HS.out.hq.bd⟩, HS.out.ag.trans (Ag.of_below hl)⟩; clear hl))
          go_ret
          exact ⟨e0, i, rfl, HS.out.dn _ _ (DownR.stop _ _ _ HL1.out HKID.out HB2.out.symm), HY.out.1, HY.out.2⟩
        · have HB2 := Aside0.mk hb
          have HM : Aside0 (N - ((j1 : Nat) : Int).toNat < N - ((i : Nat) : Int).toNat) := ⟨by have h1 := (HKID.out.lt HL1.out).1; have h2 := HS.out.lt; omega⟩
          clear hb
          go_wp2_with (first | (go_at_call 66; refine (Less_calls HS.out.hq.hp HJ1n.out HIn.out).mono ?_; rewrite [HB2.out]; rintro r w4 ⟨rfl, hl⟩; have HY : Aside0 (Hq w4 b B fLess m v nx n e0 ∧ Ag b mb B w w4) := ⟨⟨HS.out.hq.hp.below hl, HS.out.hq.bd⟩, HS.out.ag.trans (Ag.of_below hl)⟩; clear hl) | (go_at_call 69; refine (Swap_calls (mb := mb) HY.out.1.hp HY.out.1.bd HIn.out HJ1n.out).mono ?_; rintro r w5 ⟨rfl, hp5, hg5⟩; have HZ : Aside0 (Hq w5 b B fLess m v nx n (swp e0 i j1) ∧ Ag b mb B w w5) := ⟨⟨hp5, same_bd (Same.swp HIn.out HJ1n.out e0) HY.out.1.bd⟩, HY.out.2.trans hg5⟩; clear hp5 hg5))
          go_roundw
          case rel => exact ⟨j1, swp e0 i j1, rfl, ⟨⟨HZ.out.1, HZ.out.2, (HKID.out.lt HL1.out).2.1, fun e' f he => HS.out.dn _ _ (DownR.go _ _ _ _ _ HL1.out HKID.out HB2.out.symm he)⟩⟩⟩
          case measure => exact HM.out
end Go.Proofs.Ythjppjcmapgkpaa.QAg
