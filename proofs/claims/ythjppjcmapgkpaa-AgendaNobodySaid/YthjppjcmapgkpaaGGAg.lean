/- Agenda: the document's first, First, Pop. Written by a program of this repo (tools/gen_ag12.py). -/
import Derived.Test.YthjppjcmapgkpaaFFAg
namespace Go.Proofs.Ythjppjcmapgkpaa.QAg
open Go.RowKit Go.Proofs.YthjppjcmapgkpaaW.PrintWords Go.Proofs.YthjppjcmapgkpaaW.PrintLast Go.Proofs.YthjppjcmapgkpaaW.PrintMore
set_option linter.unusedVariables false
set_option linter.unusedSimpArgs false
theorem best_take {M : List En} {i : Nat} {x : En} (h : M[i]? = some x) : best (M.take (i + 1)) = better (best (M.take i)) x := by
  unfold best
  rw [List.take_add_one, h, List.foldl_append]
  rfl
/-- How far first has come. -/
def FirI (M : List En) (i : Nat) (k : Int) : Prop := (k = -1 ∧ best (M.take i) = none) ∨ ∃ (j : Nat) (y : En), k = (j : Int) ∧ M[j]? = some y ∧ best (M.take i) = some y
def FirE (M : List En) (w : World) (e : Ending) (w' : World) : Prop := ∃ res : Int, e = .returned (.int .i64 res) ∧ FirI M M.length res ∧ Below w.heap.size w w'
set_option maxRecDepth 100000 in
set_option maxHeartbeats 4000000 in
theorem first42_calls {w : World} {rb B : Nat} {r : RS} {v : Value} (h : RL w rb B r v) : Calls Try.prog 42 #[.pointer (some ⟨rb, 0, none⟩)] w fun e w' => FirE r.L w e w' := by
  obtain ⟨A, c, rfl, hc⟩ := h.form
  have HLEN := Aside0.mk h.len
  have HA := Aside0.mk (And.intro h (Below.refl w.heap.size w))
  clear h hc
  go_enter Try.func42, Try.ntmps42
  go_wp2
  have HQ0 : Aside0 ((RL w rb B r (.slice A r.L.length c) ∧ Below w.heap.size w w) ∧ FirI r.L 0 (-1)) := ⟨HA.out, Or.inl ⟨rfl, rfl⟩⟩
  go_loopw [3, 4] (fun k i wr => ∃ (i0 : Nat) (k0 : Int), i0 ≤ r.L.length ∧ k = .int .i64 k0 ∧ i = .int .i64 (i0 : Int) ∧ Aside0 ((RL wr rb B r (.slice A r.L.length c) ∧ Below w.heap.size w wr) ∧ FirI r.L i0 k0)) (fun _ i _ => r.L.length - (intOf i).toNat)
  case atStart => exact ⟨0, -1, Nat.zero_le _, rfl, rfl, HQ0⟩
  case round =>
    clear HQ0 HA
    obtain ⟨i, k0, hil, rfl, rfl, HS0⟩ := hrel
    have HS := Aside0.mk HS0.out.1
    have HI := Aside0.mk HS0.out.2
    clear HS0
    have c0 := HS.out.1.cells.1
    by_cases hlt : i < r.L.length
    · have b1 : (0 : Int) ≤ (i : Int) := Int.natCast_nonneg i
      have b2 : (i : Int) < (r.L.length : Int) := Int.ofNat_lt.2 hlt
      have b3 : decide ((i : Int) < (r.L.length : Int)) = true := decide_eq_true (by omega)
      have b4 : decide (i < r.L.length) = true := decide_eq_true hlt
      have ht : ((i : Int)).toNat = i := Int.toNat_natCast i
      have hwi : wrap64 ((i : Int) + 1) = (i : Int) + 1 := w64_nat (Nat.lt_of_lt_of_le hlt (Nat.le_trans HLEN.out (by decide)))
      have HHi : Aside0 (r.L.length - ((i : Int) + 1).toNat < r.L.length - ((i : Int)).toNat) := ⟨meas_nat hlt⟩
      have HL : Aside0 (i + 1 ≤ r.L.length) := ⟨hlt⟩
      have HE : Aside0 (r.L[i]? = some r.L[i]) := ⟨List.getElem?_eq_getElem hlt⟩
      obtain ⟨gT, oT, rfl, c1, c2, -⟩ := HS.out.1.msg HE.out
      generalize r.L[i] = x at HE c1 c2
      rcases HI.out with ⟨rfl, hb⟩ | ⟨j, y, rfl, hj, hb⟩
      · have HB := Aside0.mk hb
        clear hb hlt
        go_upto_region 5 with fail
        go_quiet (fail)
        have HS2 : Aside0 (RL (wr.drewN nq) rb B r (.slice (some ⟨gT, oT, none⟩) r.L.length c) ∧ Below w.heap.size w (wr.drewN nq)) := ⟨HS.out.1.below (pw_below_drewN (Below.refl _ _) nq), pw_below_drewN HS.out.2 nq⟩
        go_wp2
        go_roundw
        case rel => exact ⟨i + 1, _, HL.out, rfl, (by first | rfl | (rw [hwi]; rfl)), ⟨HS2.out, Or.inr ⟨i, x, rfl, HE.out, by rw [best_take HE.out, HB.out]; rfl⟩⟩⟩
        case measure => first | exact HHi.out | (simp only [hwi]; exact HHi.out)
      · have HB := Aside0.mk hb
        have HJ := Aside0.mk hj
        have hjl := (List.getElem?_eq_some_iff.1 hj).1
        have d1 : (0 : Int) ≤ (j : Int) := Int.natCast_nonneg j
        have d2 : (j : Int) < (r.L.length : Int) := Int.ofNat_lt.2 hjl
        have d3 : decide ((j : Int) < 0) = false := decide_eq_false (by omega)
        have dt : ((j : Int)).toNat = j := Int.toNat_natCast j
        clear hb hlt hj hjl
        go_upto_region 5 with fail
        by_cases hc : x.key < y.key
        · have HC : Aside0 (decide (x.key < y.key) = true) := ⟨decide_eq_true hc⟩
          have HN : Aside0 (best (r.L.take (i + 1)) = some x) := ⟨by rw [best_take HE.out, HB.out]; exact if_pos hc⟩
          clear hc
          refine startN (S := fun w' => RL w' rb B r (.slice (some ⟨gT, oT, none⟩) r.L.length c)) (N := [6, 10, 14, 18]) (by kernel_rfl) ?_
          have hHeld : (fun w' => RL w' rb B r (.slice (some ⟨gT, oT, none⟩) r.L.length c)) wr.drew := (HS.out.1.below (Below.refl _ _).drew)
          refine takeF (i := 0) (v := _) 14 rfl rfl (by kernel_rfl) (by kernel_rfl) (by kernel_rfl) (fun _ _ _ h => h) (Or.inl ⟨by rfl, fun w' _ => by first | (go_simp; done) | (go_simp; with_reducible rfl) | (go_simp; rfl)⟩) ?_
          try simp only [Act.put, List.setIfInBounds_toArray, List.set_cons_zero, List.set_cons_succ]
          refine takeF (i := 1) (v := _) 15 rfl rfl (by kernel_rfl) (by kernel_rfl) (by kernel_rfl) (fun _ _ _ h => h) (Or.inl ⟨by rfl, fun w' _ => by first | (go_simp; done) | (go_simp; with_reducible rfl) | (go_simp; rfl)⟩) ?_
          try simp only [Act.put, List.setIfInBounds_toArray, List.set_cons_zero, List.set_cons_succ]
          refine takeF (i := 2) (v := _) 16 rfl rfl (by kernel_rfl) (by kernel_rfl) (by kernel_rfl) (fun _ _ _ h => h) (Or.inl ⟨by rfl, fun w' _ => by first | (go_simp; done) | (go_simp; with_reducible rfl) | (go_simp; rfl)⟩) ?_
          try simp only [Act.put, List.setIfInBounds_toArray, List.set_cons_zero, List.set_cons_succ]
          refine takeF (i := 3) (v := _) 17 rfl rfl (by kernel_rfl) (by kernel_rfl) (by kernel_rfl) (fun _ _ _ h => h) (Or.inl ⟨by rfl, fun w' _ => by first | (go_simp; done) | (go_simp; with_reducible rfl) | (go_simp; rfl)⟩) ?_
          try simp only [Act.put, List.setIfInBounds_toArray, List.set_cons_zero, List.set_cons_succ]
          refine takeF (i := 4) (v := _) 18 rfl rfl (by kernel_rfl) (by kernel_rfl) (by kernel_rfl) (fun _ _ _ h => h) (Or.inl ⟨by rfl, fun w' _ => by first | (go_simp; done) | (go_simp; with_reducible rfl) | (go_simp; rfl)⟩) ?_
          try simp only [Act.put, List.setIfInBounds_toArray, List.set_cons_zero, List.set_cons_succ]
          refine takeF (i := 5) (v := _) 19 rfl rfl (by kernel_rfl) (by kernel_rfl) (by kernel_rfl) (fun _ _ _ h => h) (Or.inl ⟨by rfl, fun w' _ => by first | (go_simp; done) | (go_simp; with_reducible rfl) | (go_simp; rfl)⟩) ?_
          try simp only [Act.put, List.setIfInBounds_toArray, List.set_cons_zero, List.set_cons_succ]
          refine takeN (i := 6) (v := _) 20 rfl rfl (by kernel_rfl) (by kernel_rfl) (by kernel_rfl) (fun _ _ _ h => h) (by kernel_rfl) (Or.inl ⟨by rfl, fun w' hW => by have hq0 := hW.cells.1; have hq1 := (hW.msgAt HE.out).1; have hq2 := (hW.msgAt HE.out).2.1; have hq3 := (hW.msgAt HJ.out).1; have hq4 := (hW.msgAt HJ.out).2.1; first | (go_simp; done) | (go_simp; with_reducible rfl) | (go_simp; rfl)⟩) hHeld ?_
          try simp only [Act.put, List.setIfInBounds_toArray, List.set_cons_zero, List.set_cons_succ]
          refine takeF (i := 7) (v := _) 21 rfl rfl (by kernel_rfl) (by kernel_rfl) (by kernel_rfl) (fun _ _ _ h => h) (Or.inl ⟨by rfl, fun w' _ => by first | (go_simp; done) | (go_simp; with_reducible rfl) | (go_simp; rfl)⟩) ?_
          try simp only [Act.put, List.setIfInBounds_toArray, List.set_cons_zero, List.set_cons_succ]
          refine takeF (i := 8) (v := _) 22 rfl rfl (by kernel_rfl) (by kernel_rfl) (by kernel_rfl) (fun _ _ _ h => h) (Or.inl ⟨by rfl, fun w' _ => by first | (go_simp; done) | (go_simp; with_reducible rfl) | (go_simp; rfl)⟩) ?_
          try simp only [Act.put, List.setIfInBounds_toArray, List.set_cons_zero, List.set_cons_succ]
          refine takeF (i := 9) (v := _) 23 rfl rfl (by kernel_rfl) (by kernel_rfl) (by kernel_rfl) (fun _ _ _ h => h) (Or.inl ⟨by rfl, fun w' _ => by first | (go_simp; done) | (go_simp; with_reducible rfl) | (go_simp; rfl)⟩) ?_
          try simp only [Act.put, List.setIfInBounds_toArray, List.set_cons_zero, List.set_cons_succ]
          refine takeN (i := 10) (v := _) 24 rfl rfl (by kernel_rfl) (by kernel_rfl) (by kernel_rfl) (fun _ _ _ h => h) (by kernel_rfl) (Or.inl ⟨by rfl, fun w' hW => by have hq0 := hW.cells.1; have hq1 := (hW.msgAt HE.out).1; have hq2 := (hW.msgAt HE.out).2.1; have hq3 := (hW.msgAt HJ.out).1; have hq4 := (hW.msgAt HJ.out).2.1; first | (go_simp; done) | (go_simp; with_reducible rfl) | (go_simp; rfl)⟩) hHeld ?_
          try simp only [Act.put, List.setIfInBounds_toArray, List.set_cons_zero, List.set_cons_succ]
          refine takeF (i := 11) (v := _) 25 rfl rfl (by kernel_rfl) (by kernel_rfl) (by kernel_rfl) (fun _ _ _ h => h) (Or.inl ⟨by rfl, fun w' _ => by first | (go_simp; done) | (go_simp; with_reducible rfl) | (go_simp; rfl)⟩) ?_
          try simp only [Act.put, List.setIfInBounds_toArray, List.set_cons_zero, List.set_cons_succ]
          refine takeF (i := 12) (v := _) 26 rfl rfl (by kernel_rfl) (by kernel_rfl) (by kernel_rfl) (fun _ _ _ h => h) (Or.inl ⟨by rfl, fun w' _ => by first | (go_simp; done) | (go_simp; with_reducible rfl) | (go_simp; rfl)⟩) ?_
          try simp only [Act.put, List.setIfInBounds_toArray, List.set_cons_zero, List.set_cons_succ]
          refine takeF (i := 13) (v := _) 27 rfl rfl (by kernel_rfl) (by kernel_rfl) (by kernel_rfl) (fun _ _ _ h => h) (Or.inl ⟨by rfl, fun w' _ => by first | (go_simp; done) | (go_simp; with_reducible rfl) | (go_simp; rfl)⟩) ?_
          try simp only [Act.put, List.setIfInBounds_toArray, List.set_cons_zero, List.set_cons_succ]
          refine takeN (i := 14) (v := _) 28 rfl rfl (by kernel_rfl) (by kernel_rfl) (by kernel_rfl) (fun _ _ _ h => h) (by kernel_rfl) (Or.inl ⟨by rfl, fun w' hW => by have hq0 := hW.cells.1; have hq1 := (hW.msgAt HE.out).1; have hq2 := (hW.msgAt HE.out).2.1; have hq3 := (hW.msgAt HJ.out).1; have hq4 := (hW.msgAt HJ.out).2.1; first | (go_simp; done) | (go_simp; with_reducible rfl) | (go_simp; rfl)⟩) hHeld ?_
          try simp only [Act.put, List.setIfInBounds_toArray, List.set_cons_zero, List.set_cons_succ]
          refine takeF (i := 15) (v := _) 29 rfl rfl (by kernel_rfl) (by kernel_rfl) (by kernel_rfl) (fun _ _ _ h => h) (Or.inl ⟨by rfl, fun w' _ => by first | (go_simp; done) | (go_simp; with_reducible rfl) | (go_simp; rfl)⟩) ?_
          try simp only [Act.put, List.setIfInBounds_toArray, List.set_cons_zero, List.set_cons_succ]
          refine takeF (i := 16) (v := _) 30 rfl rfl (by kernel_rfl) (by kernel_rfl) (by kernel_rfl) (fun _ _ _ h => h) (Or.inl ⟨by rfl, fun w' _ => by first | (go_simp; done) | (go_simp; with_reducible rfl) | (go_simp; rfl)⟩) ?_
          try simp only [Act.put, List.setIfInBounds_toArray, List.set_cons_zero, List.set_cons_succ]
          refine takeF (i := 17) (v := _) 31 rfl rfl (by kernel_rfl) (by kernel_rfl) (by kernel_rfl) (fun _ _ _ h => h) (Or.inl ⟨by rfl, fun w' _ => by first | (go_simp; done) | (go_simp; with_reducible rfl) | (go_simp; rfl)⟩) ?_
          try simp only [Act.put, List.setIfInBounds_toArray, List.set_cons_zero, List.set_cons_succ]
          refine takeN (i := 18) (v := _) 32 rfl rfl (by kernel_rfl) (by kernel_rfl) (by kernel_rfl) (fun _ _ _ h => h) (by kernel_rfl) (Or.inl ⟨by rfl, fun w' hW => by have hq0 := hW.cells.1; have hq1 := (hW.msgAt HE.out).1; have hq2 := (hW.msgAt HE.out).2.1; have hq3 := (hW.msgAt HJ.out).1; have hq4 := (hW.msgAt HJ.out).2.1; first | (go_simp; done) | (go_simp; with_reducible rfl) | (go_simp; rfl)⟩) hHeld ?_
          try simp only [Act.put, List.setIfInBounds_toArray, List.set_cons_zero, List.set_cons_succ]
          have HB2 : Aside0 (RL wr.drew rb B r (.slice (some ⟨gT, oT, none⟩) r.L.length c) ∧ Below w.heap.size w wr.drew) := ⟨HS.out.1.below (Below.refl _ _).drew, HS.out.2.trans ((Below.refl _ _).drew.mono HS.out.2.size)⟩
          clear hHeld
          generalize wr.drew = w2 at HB2 ⊢
          refine readyN (rs := [19]) (by kernel_rfl) (by simp) ?_
          refine eachN.cons rfl (fun K hK => ?_) eachN.nil
          go_simp
          go_wp2_with (go_at_call 9; refine (less_calls x.key x.mark y.key y.mark _).mono ?_; rewrite [HC.out]; rintro e w3 ⟨rfl, hl⟩; have HB3 : Aside0 (RL w3 rb B r (.slice (some ⟨gT, oT, none⟩) r.L.length c) ∧ Below w.heap.size w w3) := ⟨HB2.out.1.below hl, HB2.out.2.trans (hl.mono HB2.out.2.size)⟩; clear hl)
          refine hK.out _ _ HB3.out.1 (fun hHeld => ?_)
          clear hK K
          try simp only [Act.put, List.setIfInBounds_toArray, List.set_cons_zero, List.set_cons_succ]
          refine takeF (i := 20) (v := _) 34 rfl rfl (by kernel_rfl) (by kernel_rfl) (by kernel_rfl) (fun _ _ _ h => h) (Or.inl ⟨by rfl, fun w' _ => by first | (go_simp; done) | (go_simp; with_reducible rfl) | (go_simp; rfl)⟩) ?_
          try simp only [Act.put, List.setIfInBounds_toArray, List.set_cons_zero, List.set_cons_succ]
          refine doneN (by kernel_rfl) ?_ _
          clear b1 b2 b3 ht c0 c1 c2
          clear d1 d2 d3 dt
          go_wp2
          go_roundw
          case rel => exact ⟨i + 1, _, HL.out, rfl, (by first | rfl | (rw [hwi]; rfl)), ⟨HB3.out, Or.inr ⟨i, x, rfl, HE.out, HN.out⟩⟩⟩
          case measure => first | exact HHi.out | (simp only [hwi]; exact HHi.out)
        · have HC : Aside0 (decide (x.key < y.key) = false) := ⟨decide_eq_false hc⟩
          have HN : Aside0 (best (r.L.take (i + 1)) = some y) := ⟨by rw [best_take HE.out, HB.out]; exact if_neg hc⟩
          clear hc
          refine startN (S := fun w' => RL w' rb B r (.slice (some ⟨gT, oT, none⟩) r.L.length c)) (N := [6, 10, 14, 18]) (by kernel_rfl) ?_
          have hHeld : (fun w' => RL w' rb B r (.slice (some ⟨gT, oT, none⟩) r.L.length c)) wr.drew := (HS.out.1.below (Below.refl _ _).drew)
          refine takeF (i := 0) (v := _) 14 rfl rfl (by kernel_rfl) (by kernel_rfl) (by kernel_rfl) (fun _ _ _ h => h) (Or.inl ⟨by rfl, fun w' _ => by first | (go_simp; done) | (go_simp; with_reducible rfl) | (go_simp; rfl)⟩) ?_
          try simp only [Act.put, List.setIfInBounds_toArray, List.set_cons_zero, List.set_cons_succ]
          refine takeF (i := 1) (v := _) 15 rfl rfl (by kernel_rfl) (by kernel_rfl) (by kernel_rfl) (fun _ _ _ h => h) (Or.inl ⟨by rfl, fun w' _ => by first | (go_simp; done) | (go_simp; with_reducible rfl) | (go_simp; rfl)⟩) ?_
          try simp only [Act.put, List.setIfInBounds_toArray, List.set_cons_zero, List.set_cons_succ]
          refine takeF (i := 2) (v := _) 16 rfl rfl (by kernel_rfl) (by kernel_rfl) (by kernel_rfl) (fun _ _ _ h => h) (Or.inl ⟨by rfl, fun w' _ => by first | (go_simp; done) | (go_simp; with_reducible rfl) | (go_simp; rfl)⟩) ?_
          try simp only [Act.put, List.setIfInBounds_toArray, List.set_cons_zero, List.set_cons_succ]
          refine takeF (i := 3) (v := _) 17 rfl rfl (by kernel_rfl) (by kernel_rfl) (by kernel_rfl) (fun _ _ _ h => h) (Or.inl ⟨by rfl, fun w' _ => by first | (go_simp; done) | (go_simp; with_reducible rfl) | (go_simp; rfl)⟩) ?_
          try simp only [Act.put, List.setIfInBounds_toArray, List.set_cons_zero, List.set_cons_succ]
          refine takeF (i := 4) (v := _) 18 rfl rfl (by kernel_rfl) (by kernel_rfl) (by kernel_rfl) (fun _ _ _ h => h) (Or.inl ⟨by rfl, fun w' _ => by first | (go_simp; done) | (go_simp; with_reducible rfl) | (go_simp; rfl)⟩) ?_
          try simp only [Act.put, List.setIfInBounds_toArray, List.set_cons_zero, List.set_cons_succ]
          refine takeF (i := 5) (v := _) 19 rfl rfl (by kernel_rfl) (by kernel_rfl) (by kernel_rfl) (fun _ _ _ h => h) (Or.inl ⟨by rfl, fun w' _ => by first | (go_simp; done) | (go_simp; with_reducible rfl) | (go_simp; rfl)⟩) ?_
          try simp only [Act.put, List.setIfInBounds_toArray, List.set_cons_zero, List.set_cons_succ]
          refine takeN (i := 6) (v := _) 20 rfl rfl (by kernel_rfl) (by kernel_rfl) (by kernel_rfl) (fun _ _ _ h => h) (by kernel_rfl) (Or.inl ⟨by rfl, fun w' hW => by have hq0 := hW.cells.1; have hq1 := (hW.msgAt HE.out).1; have hq2 := (hW.msgAt HE.out).2.1; have hq3 := (hW.msgAt HJ.out).1; have hq4 := (hW.msgAt HJ.out).2.1; first | (go_simp; done) | (go_simp; with_reducible rfl) | (go_simp; rfl)⟩) hHeld ?_
          try simp only [Act.put, List.setIfInBounds_toArray, List.set_cons_zero, List.set_cons_succ]
          refine takeF (i := 7) (v := _) 21 rfl rfl (by kernel_rfl) (by kernel_rfl) (by kernel_rfl) (fun _ _ _ h => h) (Or.inl ⟨by rfl, fun w' _ => by first | (go_simp; done) | (go_simp; with_reducible rfl) | (go_simp; rfl)⟩) ?_
          try simp only [Act.put, List.setIfInBounds_toArray, List.set_cons_zero, List.set_cons_succ]
          refine takeF (i := 8) (v := _) 22 rfl rfl (by kernel_rfl) (by kernel_rfl) (by kernel_rfl) (fun _ _ _ h => h) (Or.inl ⟨by rfl, fun w' _ => by first | (go_simp; done) | (go_simp; with_reducible rfl) | (go_simp; rfl)⟩) ?_
          try simp only [Act.put, List.setIfInBounds_toArray, List.set_cons_zero, List.set_cons_succ]
          refine takeF (i := 9) (v := _) 23 rfl rfl (by kernel_rfl) (by kernel_rfl) (by kernel_rfl) (fun _ _ _ h => h) (Or.inl ⟨by rfl, fun w' _ => by first | (go_simp; done) | (go_simp; with_reducible rfl) | (go_simp; rfl)⟩) ?_
          try simp only [Act.put, List.setIfInBounds_toArray, List.set_cons_zero, List.set_cons_succ]
          refine takeN (i := 10) (v := _) 24 rfl rfl (by kernel_rfl) (by kernel_rfl) (by kernel_rfl) (fun _ _ _ h => h) (by kernel_rfl) (Or.inl ⟨by rfl, fun w' hW => by have hq0 := hW.cells.1; have hq1 := (hW.msgAt HE.out).1; have hq2 := (hW.msgAt HE.out).2.1; have hq3 := (hW.msgAt HJ.out).1; have hq4 := (hW.msgAt HJ.out).2.1; first | (go_simp; done) | (go_simp; with_reducible rfl) | (go_simp; rfl)⟩) hHeld ?_
          try simp only [Act.put, List.setIfInBounds_toArray, List.set_cons_zero, List.set_cons_succ]
          refine takeF (i := 11) (v := _) 25 rfl rfl (by kernel_rfl) (by kernel_rfl) (by kernel_rfl) (fun _ _ _ h => h) (Or.inl ⟨by rfl, fun w' _ => by first | (go_simp; done) | (go_simp; with_reducible rfl) | (go_simp; rfl)⟩) ?_
          try simp only [Act.put, List.setIfInBounds_toArray, List.set_cons_zero, List.set_cons_succ]
          refine takeF (i := 12) (v := _) 26 rfl rfl (by kernel_rfl) (by kernel_rfl) (by kernel_rfl) (fun _ _ _ h => h) (Or.inl ⟨by rfl, fun w' _ => by first | (go_simp; done) | (go_simp; with_reducible rfl) | (go_simp; rfl)⟩) ?_
          try simp only [Act.put, List.setIfInBounds_toArray, List.set_cons_zero, List.set_cons_succ]
          refine takeF (i := 13) (v := _) 27 rfl rfl (by kernel_rfl) (by kernel_rfl) (by kernel_rfl) (fun _ _ _ h => h) (Or.inl ⟨by rfl, fun w' _ => by first | (go_simp; done) | (go_simp; with_reducible rfl) | (go_simp; rfl)⟩) ?_
          try simp only [Act.put, List.setIfInBounds_toArray, List.set_cons_zero, List.set_cons_succ]
          refine takeN (i := 14) (v := _) 28 rfl rfl (by kernel_rfl) (by kernel_rfl) (by kernel_rfl) (fun _ _ _ h => h) (by kernel_rfl) (Or.inl ⟨by rfl, fun w' hW => by have hq0 := hW.cells.1; have hq1 := (hW.msgAt HE.out).1; have hq2 := (hW.msgAt HE.out).2.1; have hq3 := (hW.msgAt HJ.out).1; have hq4 := (hW.msgAt HJ.out).2.1; first | (go_simp; done) | (go_simp; with_reducible rfl) | (go_simp; rfl)⟩) hHeld ?_
          try simp only [Act.put, List.setIfInBounds_toArray, List.set_cons_zero, List.set_cons_succ]
          refine takeF (i := 15) (v := _) 29 rfl rfl (by kernel_rfl) (by kernel_rfl) (by kernel_rfl) (fun _ _ _ h => h) (Or.inl ⟨by rfl, fun w' _ => by first | (go_simp; done) | (go_simp; with_reducible rfl) | (go_simp; rfl)⟩) ?_
          try simp only [Act.put, List.setIfInBounds_toArray, List.set_cons_zero, List.set_cons_succ]
          refine takeF (i := 16) (v := _) 30 rfl rfl (by kernel_rfl) (by kernel_rfl) (by kernel_rfl) (fun _ _ _ h => h) (Or.inl ⟨by rfl, fun w' _ => by first | (go_simp; done) | (go_simp; with_reducible rfl) | (go_simp; rfl)⟩) ?_
          try simp only [Act.put, List.setIfInBounds_toArray, List.set_cons_zero, List.set_cons_succ]
          refine takeF (i := 17) (v := _) 31 rfl rfl (by kernel_rfl) (by kernel_rfl) (by kernel_rfl) (fun _ _ _ h => h) (Or.inl ⟨by rfl, fun w' _ => by first | (go_simp; done) | (go_simp; with_reducible rfl) | (go_simp; rfl)⟩) ?_
          try simp only [Act.put, List.setIfInBounds_toArray, List.set_cons_zero, List.set_cons_succ]
          refine takeN (i := 18) (v := _) 32 rfl rfl (by kernel_rfl) (by kernel_rfl) (by kernel_rfl) (fun _ _ _ h => h) (by kernel_rfl) (Or.inl ⟨by rfl, fun w' hW => by have hq0 := hW.cells.1; have hq1 := (hW.msgAt HE.out).1; have hq2 := (hW.msgAt HE.out).2.1; have hq3 := (hW.msgAt HJ.out).1; have hq4 := (hW.msgAt HJ.out).2.1; first | (go_simp; done) | (go_simp; with_reducible rfl) | (go_simp; rfl)⟩) hHeld ?_
          try simp only [Act.put, List.setIfInBounds_toArray, List.set_cons_zero, List.set_cons_succ]
          have HB2 : Aside0 (RL wr.drew rb B r (.slice (some ⟨gT, oT, none⟩) r.L.length c) ∧ Below w.heap.size w wr.drew) := ⟨HS.out.1.below (Below.refl _ _).drew, HS.out.2.trans ((Below.refl _ _).drew.mono HS.out.2.size)⟩
          clear hHeld
          generalize wr.drew = w2 at HB2 ⊢
          refine readyN (rs := [19]) (by kernel_rfl) (by simp) ?_
          refine eachN.cons rfl (fun K hK => ?_) eachN.nil
          go_simp
          go_wp2_with (go_at_call 9; refine (less_calls x.key x.mark y.key y.mark _).mono ?_; rewrite [HC.out]; rintro e w3 ⟨rfl, hl⟩; have HB3 : Aside0 (RL w3 rb B r (.slice (some ⟨gT, oT, none⟩) r.L.length c) ∧ Below w.heap.size w w3) := ⟨HB2.out.1.below hl, HB2.out.2.trans (hl.mono HB2.out.2.size)⟩; clear hl)
          refine hK.out _ _ HB3.out.1 (fun hHeld => ?_)
          clear hK K
          try simp only [Act.put, List.setIfInBounds_toArray, List.set_cons_zero, List.set_cons_succ]
          refine takeF (i := 20) (v := _) 34 rfl rfl (by kernel_rfl) (by kernel_rfl) (by kernel_rfl) (fun _ _ _ h => h) (Or.inl ⟨by rfl, fun w' _ => by first | (go_simp; done) | (go_simp; with_reducible rfl) | (go_simp; rfl)⟩) ?_
          try simp only [Act.put, List.setIfInBounds_toArray, List.set_cons_zero, List.set_cons_succ]
          refine doneN (by kernel_rfl) ?_ _
          clear b1 b2 b3 ht c0 c1 c2
          clear d1 d2 d3 dt
          go_wp2
          go_roundw
          case rel => exact ⟨i + 1, _, HL.out, rfl, (by first | rfl | (rw [hwi]; rfl)), ⟨HB3.out, Or.inr ⟨j, y, rfl, HJ.out, HN.out⟩⟩⟩
          case measure => first | exact HHi.out | (simp only [hwi]; exact HHi.out)
    · have b3 : decide ((i : Int) < (r.L.length : Int)) = false := decide_eq_false (by omega)
      have b4 : decide (i < r.L.length) = false := decide_eq_false hlt
      have HZ : Aside0 (i = r.L.length) := ⟨by omega⟩
      clear hlt
      go_wp2
      go_ret
      exact ⟨_, rfl, by rw [← HZ.out]; exact HI.out, HS.out.2⟩
theorem FirI.all {M : List En} {res : Int} (h : FirI M M.length res) : (∃ (i : Nat) (x : En), res = (i : Int) ∧ M[i]? = some x ∧ best M = some x) ∨ (res = -1 ∧ best M = none) := by
  unfold FirI at h
  rw [List.take_length] at h
  rcases h with ⟨h1, h2⟩ | ⟨j, y, h1, h2, h3⟩
  · exact Or.inr ⟨h1, h2⟩
  · exact Or.inl ⟨j, y, h1, h2, h3⟩
def FstE (M : List En) (w : World) (e : Ending) (w' : World) : Prop := ((∃ x, best M = some x ∧ e = .returned (.tuple #[.agg (aT x.key x.mark), .int .i64 x.id, .bool true])) ∨ (best M = none ∧ e = .returned (.tuple #[.agg (aT 0 0), .int .i64 0, .bool false]))) ∧ Below w.heap.size w w'
set_option maxRecDepth 100000 in
set_option maxHeartbeats 4000000 in
theorem RFirst_calls {w : World} {rb B : Nat} {r : RS} {v : Value} (h : RL w rb B r v) : Calls Try.prog 20 #[.pointer (some ⟨rb, 0, none⟩)] w fun e w' => FstE r.L w e w' := by
  obtain ⟨A, c, rfl, hc⟩ := h.form
  have HB0 := Aside0.mk ((Rb.start h).alloc (.cells (aT 0 0) 27))
  have HLEN := Aside0.mk h.len
  have HW0 : Aside0 (Below w.heap.size w (w.alloc (.cells (aT 0 0) 27))) := ⟨(Below.refl _ _).alloc (Nat.le_refl _) _⟩
  clear h hc
  go_enter Try.func20, Try.ntmps20
  go_upto_region 1 with fail
  generalize hw1 : w.alloc (.cells (aT 0 0) 27) = wq at HB0 HW0 ⊢
  clear hw1
  go_upto_region 2 with (go_at_call 42; refine (first42_calls HB0.out.rl).mono ?_; rintro e w1 ⟨res, rfl, hf, hl⟩; have HF := Aside0.mk hf.all; have HB := Aside0.mk (And.intro (HB0.out.below hl) (HW0.out.trans (hl.mono HW0.out.size))); clear hf hl)
  replace HB0 := Aside0.mk HB.out.1
  replace HW0 := Aside0.mk HB.out.2
  clear HB
  rcases HF.out with ⟨i, m, rfl, hm, ha⟩ | ⟨rfl, ha⟩
  · have b1 : (0 : Int) ≤ (i : Int) := Int.natCast_nonneg i
    have b2 : (i : Int) < (r.L.length : Int) := Int.ofNat_lt.2 (List.getElem?_eq_some_iff.1 hm).1
    have b3 : decide ((i : Int) < 0) = false := decide_eq_false (by omega)
    have ht : ((i : Int)).toNat = i := Int.toNat_natCast i
    have HE := Aside0.mk (And.intro hm ha)
    clear hm ha
    obtain ⟨gT, oT, rfl, -⟩ := HB0.out.rl.msg HE.out.1
    go_upto_region 4 with fail
    refine startN (S := fun w' => RL w' rb B r (.slice (some ⟨gT, oT, none⟩) r.L.length c)) (N := [3, 7, 11, 15]) (by kernel_rfl) ?_
    have hHeld : (fun w' => RL w' rb B r (.slice (some ⟨gT, oT, none⟩) r.L.length c)) w1.drew := (HB0.out.below (Below.refl _ _).drew).rl
    refine takeF (i := 0) (v := _) 11 rfl rfl (by kernel_rfl) (by kernel_rfl) (by kernel_rfl) (fun _ _ _ h => h) (Or.inl ⟨by rfl, fun w' _ => by first | (go_simp; done) | (go_simp; with_reducible rfl) | (go_simp; rfl)⟩) ?_
    try simp only [Act.put, List.setIfInBounds_toArray, List.set_cons_zero, List.set_cons_succ]
    refine takeF (i := 1) (v := _) 12 rfl rfl (by kernel_rfl) (by kernel_rfl) (by kernel_rfl) (fun _ _ _ h => h) (Or.inl ⟨by rfl, fun w' _ => by first | (go_simp; done) | (go_simp; with_reducible rfl) | (go_simp; rfl)⟩) ?_
    try simp only [Act.put, List.setIfInBounds_toArray, List.set_cons_zero, List.set_cons_succ]
    refine takeF (i := 2) (v := _) 13 rfl rfl (by kernel_rfl) (by kernel_rfl) (by kernel_rfl) (fun _ _ _ h => h) (Or.inl ⟨by rfl, fun w' _ => by first | (go_simp; done) | (go_simp; with_reducible rfl) | (go_simp; rfl)⟩) ?_
    try simp only [Act.put, List.setIfInBounds_toArray, List.set_cons_zero, List.set_cons_succ]
    refine takeN (i := 3) (v := _) 14 rfl rfl (by kernel_rfl) (by kernel_rfl) (by kernel_rfl) (fun _ _ _ h => h) (by kernel_rfl) (Or.inl ⟨by rfl, fun w' hW => by have hq0 := hW.cells.1; have hq1 := (hW.msgAt HE.out.1).1; have hq2 := (hW.msgAt HE.out.1).2.1; have hq3 := (hW.msgAt HE.out.1).2.2; first | (go_simp; done) | (go_simp; with_reducible rfl) | (go_simp; rfl)⟩) hHeld ?_
    try simp only [Act.put, List.setIfInBounds_toArray, List.set_cons_zero, List.set_cons_succ]
    refine takeF (i := 4) (v := _) 15 rfl rfl (by kernel_rfl) (by kernel_rfl) (by kernel_rfl) (fun _ _ _ h => h) (Or.inl ⟨by rfl, fun w' _ => by first | (go_simp; done) | (go_simp; with_reducible rfl) | (go_simp; rfl)⟩) ?_
    try simp only [Act.put, List.setIfInBounds_toArray, List.set_cons_zero, List.set_cons_succ]
    refine takeF (i := 5) (v := _) 16 rfl rfl (by kernel_rfl) (by kernel_rfl) (by kernel_rfl) (fun _ _ _ h => h) (Or.inl ⟨by rfl, fun w' _ => by first | (go_simp; done) | (go_simp; with_reducible rfl) | (go_simp; rfl)⟩) ?_
    try simp only [Act.put, List.setIfInBounds_toArray, List.set_cons_zero, List.set_cons_succ]
    refine takeF (i := 6) (v := _) 17 rfl rfl (by kernel_rfl) (by kernel_rfl) (by kernel_rfl) (fun _ _ _ h => h) (Or.inl ⟨by rfl, fun w' _ => by first | (go_simp; done) | (go_simp; with_reducible rfl) | (go_simp; rfl)⟩) ?_
    try simp only [Act.put, List.setIfInBounds_toArray, List.set_cons_zero, List.set_cons_succ]
    refine takeN (i := 7) (v := _) 18 rfl rfl (by kernel_rfl) (by kernel_rfl) (by kernel_rfl) (fun _ _ _ h => h) (by kernel_rfl) (Or.inl ⟨by rfl, fun w' hW => by have hq0 := hW.cells.1; have hq1 := (hW.msgAt HE.out.1).1; have hq2 := (hW.msgAt HE.out.1).2.1; have hq3 := (hW.msgAt HE.out.1).2.2; first | (go_simp; done) | (go_simp; with_reducible rfl) | (go_simp; rfl)⟩) hHeld ?_
    try simp only [Act.put, List.setIfInBounds_toArray, List.set_cons_zero, List.set_cons_succ]
    refine takeF (i := 8) (v := _) 19 rfl rfl (by kernel_rfl) (by kernel_rfl) (by kernel_rfl) (fun _ _ _ h => h) (Or.inl ⟨by rfl, fun w' _ => by first | (go_simp; done) | (go_simp; with_reducible rfl) | (go_simp; rfl)⟩) ?_
    try simp only [Act.put, List.setIfInBounds_toArray, List.set_cons_zero, List.set_cons_succ]
    refine takeF (i := 9) (v := _) 20 rfl rfl (by kernel_rfl) (by kernel_rfl) (by kernel_rfl) (fun _ _ _ h => h) (Or.inl ⟨by rfl, fun w' _ => by first | (go_simp; done) | (go_simp; with_reducible rfl) | (go_simp; rfl)⟩) ?_
    try simp only [Act.put, List.setIfInBounds_toArray, List.set_cons_zero, List.set_cons_succ]
    refine takeF (i := 10) (v := _) 21 rfl rfl (by kernel_rfl) (by kernel_rfl) (by kernel_rfl) (fun _ _ _ h => h) (Or.inl ⟨by rfl, fun w' _ => by first | (go_simp; done) | (go_simp; with_reducible rfl) | (go_simp; rfl)⟩) ?_
    try simp only [Act.put, List.setIfInBounds_toArray, List.set_cons_zero, List.set_cons_succ]
    refine takeN (i := 11) (v := _) 22 rfl rfl (by kernel_rfl) (by kernel_rfl) (by kernel_rfl) (fun _ _ _ h => h) (by kernel_rfl) (Or.inl ⟨by rfl, fun w' hW => by have hq0 := hW.cells.1; have hq1 := (hW.msgAt HE.out.1).1; have hq2 := (hW.msgAt HE.out.1).2.1; have hq3 := (hW.msgAt HE.out.1).2.2; first | (go_simp; done) | (go_simp; with_reducible rfl) | (go_simp; rfl)⟩) hHeld ?_
    try simp only [Act.put, List.setIfInBounds_toArray, List.set_cons_zero, List.set_cons_succ]
    refine takeF (i := 12) (v := _) 23 rfl rfl (by kernel_rfl) (by kernel_rfl) (by kernel_rfl) (fun _ _ _ h => h) (Or.inl ⟨by rfl, fun w' _ => by first | (go_simp; done) | (go_simp; with_reducible rfl) | (go_simp; rfl)⟩) ?_
    try simp only [Act.put, List.setIfInBounds_toArray, List.set_cons_zero, List.set_cons_succ]
    refine takeF (i := 13) (v := _) 24 rfl rfl (by kernel_rfl) (by kernel_rfl) (by kernel_rfl) (fun _ _ _ h => h) (Or.inl ⟨by rfl, fun w' _ => by first | (go_simp; done) | (go_simp; with_reducible rfl) | (go_simp; rfl)⟩) ?_
    try simp only [Act.put, List.setIfInBounds_toArray, List.set_cons_zero, List.set_cons_succ]
    refine takeF (i := 14) (v := _) 25 rfl rfl (by kernel_rfl) (by kernel_rfl) (by kernel_rfl) (fun _ _ _ h => h) (Or.inl ⟨by rfl, fun w' _ => by first | (go_simp; done) | (go_simp; with_reducible rfl) | (go_simp; rfl)⟩) ?_
    try simp only [Act.put, List.setIfInBounds_toArray, List.set_cons_zero, List.set_cons_succ]
    refine takeN (i := 15) (v := _) 26 rfl rfl (by kernel_rfl) (by kernel_rfl) (by kernel_rfl) (fun _ _ _ h => h) (by kernel_rfl) (Or.inl ⟨by rfl, fun w' hW => by have hq0 := hW.cells.1; have hq1 := (hW.msgAt HE.out.1).1; have hq2 := (hW.msgAt HE.out.1).2.1; have hq3 := (hW.msgAt HE.out.1).2.2; first | (go_simp; done) | (go_simp; with_reducible rfl) | (go_simp; rfl)⟩) hHeld ?_
    try simp only [Act.put, List.setIfInBounds_toArray, List.set_cons_zero, List.set_cons_succ]
    have HB3 := Aside0.mk (HB0.out.below (Below.refl _ _).drew)
    have HW3 : Aside0 (Below w.heap.size w w1.drew) := ⟨HW0.out.trans ((Below.refl _ _).drew.mono HW0.out.size)⟩
    clear hHeld
    generalize w1.drew = w3 at HB3 HW3 ⊢
    refine readyN (rs := [16]) (by kernel_rfl) (by simp) ?_
    refine eachN.cons rfl (fun K hK => ?_) eachN.nil
    rw [if_pos (by rfl)]
    refine store_at rfl 27 (.tmp 2) (.tmp 18) rfl w.heap.size 0 (aT m.key m.mark) rfl rfl (there_of_block (HB3.out.blk (g := w.heap.size) (C := aT 0 0) (t := 27) (by simp)) 0 2 (by simp)) (by kernel_rfl) (by simp [Value.oneCell']) ?_
    have HB4 : Aside0 (Rb w rb B r (.slice (some ⟨gT, oT, none⟩) r.L.length c) [(w.heap.size, .cells (aT m.key m.mark) 27)] (w3.setCells w.heap.size 0 (aT m.key m.mark).toList) ∧ Below w.heap.size w (w3.setCells w.heap.size 0 (aT m.key m.mark).toList)) := ⟨HB3.out.head (fun p hp => by cases hp) 0 _ rfl, below_setCells (Nat.le_refl _) _ _ _ HW3.out⟩
    generalize w3.setCells w.heap.size 0 (aT m.key m.mark).toList = w4 at HB4 ⊢
    refine hK.out _ _ HB4.out.1.rl (fun hHeld => ?_)
    clear hK K
    try simp only [Act.put, List.setIfInBounds_toArray, List.set_cons_zero, List.set_cons_succ]
    clear hHeld
    refine takeF (i := 17) (v := _) 3 rfl rfl (by kernel_rfl) (by kernel_rfl) (by kernel_rfl) (fun _ _ _ h => h) (Or.inl ⟨by rfl, fun w' _ => by first | (go_simp; done) | (go_simp; with_reducible rfl) | (go_simp; rfl)⟩) ?_
    try simp only [Act.put, List.setIfInBounds_toArray, List.set_cons_zero, List.set_cons_succ]
    refine takeF (i := 18) (v := _) 4 rfl rfl (by kernel_rfl) (by kernel_rfl) (by kernel_rfl) (fun _ _ _ h => h) (Or.inl ⟨by rfl, fun w' _ => by first | (go_simp; done) | (go_simp; with_reducible rfl) | (go_simp; rfl)⟩) ?_
    try simp only [Act.put, List.setIfInBounds_toArray, List.set_cons_zero, List.set_cons_succ]
    refine doneN (by kernel_rfl) ?_ _
    go_wp2
    exact bodyPost_ret (res_ctt (t := 27) rfl rfl rfl rfl (HB4.out.1.blk (g := w.heap.size) (C := aT m.key m.mark) (t := 27) (by simp)) Try.underlying27 rfl (by kernel_rfl)) rfl ⟨Or.inl ⟨m, HE.out.2, rfl⟩, HB4.out.2⟩
  · have HE := Aside0.mk ha
    have hbx := HB0.out.blk (g := w.heap.size) (C := aT 0 0) (t := 27) (by simp)
    have HBX := Aside0.mk hbx
    clear ha hbx
    go_wp2_with ((with_reducible refine gate_store (t := 27) (p := 2) rfl ?_); refine store_blk rfl 27 (.tmp 2) (.tmp 10) rfl w.heap.size 0 (aT 0 0) (aT 0 0) 27 rfl rfl HBX.out (by simp) (by kernel_rfl) (by simp [Value.oneCell']) ?_; intro w9 hw9 hb9; have HS : Aside0 (w9.heap[w.heap.size]? = some (.cells (aT 0 0) 27 (0, 0)) ∧ Below w.heap.size w w9) := ⟨hb9, by rw [hw9]; exact below_setCells (Nat.le_refl _) _ _ _ HW0.out⟩; clear hw9 hb9)
    exact bodyPost_ret (res_ctt (t := 27) rfl rfl rfl rfl HS.out.1 Try.underlying27 rfl (by kernel_rfl)) rfl ⟨Or.inr ⟨HE.out, rfl⟩, HS.out.2⟩
/-- A store into a box of one's own. -/
theorem Rn.box {rb B : Nat} {r : RS} {w0 w : World} {C : Array Value} (h : Rn rb B r w0 w) (hg : w.heap[w0.heap.size]? = some (.cells C 27 (0, 0))) (o : Nat) (vs : List Value) : Rn rb B r w0 (w.setCells w0.heap.size o vs) := by
  obtain ⟨v, hv⟩ := h.rl
  have hrb : rb ≠ w0.heap.size := fun hc => by
    have h1 := hv.blk
    rw [hc, hg] at h1
    injection h1 with h1
    injection h1 with _ h1
    exact absurd h1 (by decide)
  refine ⟨⟨v, ⟨(far_setCells hrb vs o w).trans hv.blk, hv.row.of (fun g cur _ hw => far_setCells (fun hc => ?_) vs o w), hv.lt, by rw [(os_setCells vs o w).2.2.2]; exact hv.sz, hv.len⟩⟩, h.fr.setCells' (Nat.le_refl _) o vs⟩
  rw [hc, hg] at hw
  injection hw with hw
  injection hw with _ hw
  exact absurd hw (by decide)
/-- Places and numbers are one. -/
theorem take_drop_rem : ∀ {M : List En} {i : Nat} {x : En}, M.Pairwise (fun x y => x.id < y.id) → M[i]? = some x → M.take i ++ M.drop (i + 1) = rem M x.id
  | [], i, x, _, h => by simp at h
  | y :: M, 0, x, hp, h => by
    rw [List.pairwise_cons] at hp
    have e1 : y = x := by simpa using h
    subst e1
    show M = rem (y :: M) y.id
    unfold rem
    rw [List.filter_cons_of_neg (by simp)]
    exact (List.filter_eq_self.2 (fun z hz => by have := hp.1 z hz; simp; omega)).symm
  | y :: M, i + 1, x, hp, h => by
    rw [List.pairwise_cons] at hp
    have h' : M[i]? = some x := by simpa using h
    have hx := hp.1 x (List.mem_of_getElem? h')
    rw [List.take_succ_cons, List.drop_succ_cons, List.cons_append, take_drop_rem hp.2 h']
    unfold rem
    rw [List.filter_cons_of_pos (by simp; omega)]
theorem best_at {M : List En} (hp : M.Pairwise (fun x y => x.id < y.id)) {x : En} (h : best M = some x) : atM M x.id = some x := by
  have hne : M ≠ [] := fun hc => by rw [hc] at h; cases h
  obtain ⟨y, h1, h2, _⟩ := best_spec hp hne
  rw [h1] at h
  cases h
  unfold atM
  obtain ⟨i, hi⟩ := List.getElem?_of_mem h2
  have hlt := (List.getElem?_eq_some_iff.1 hi).1
  rw [List.find?_eq_some_iff_getElem]
  refine ⟨by simp, i, hlt, (List.getElem?_eq_some_iff.1 hi).2, fun j hj => ?_⟩
  have := List.pairwise_iff_getElem.1 hp j i (by omega) hlt hj
  rw [(List.getElem?_eq_some_iff.1 hi).2] at this
  simp
  omega
def PopE (rb B : Nat) (r : RS) (w : World) (e : Ending) (w' : World) : Prop := (∃ x, best r.L = some x ∧ e = .returned (.tuple #[.agg (aT x.key x.mark), .int .i64 x.id, .bool true]) ∧ Rn rb B { r with L := rem r.L x.id } w w') ∨ (best r.L = none ∧ e = .returned (.tuple #[.agg (aT 0 0), .int .i64 0, .bool false]) ∧ Rn rb B r w w')
set_option maxRecDepth 100000 in
set_option maxHeartbeats 4000000 in
theorem RPop_calls {w : World} {rb B : Nat} {r : RS} {v : Value} (h : RL w rb B r v) (hp : r.L.Pairwise (fun x y => x.id < y.id)) : Calls Try.prog 27 #[.pointer (some ⟨rb, 0, none⟩)] w fun e w' => PopE rb B r w e w' := by
  obtain ⟨A, c, rfl, hc⟩ := h.form
  have HB0 := Aside0.mk ((Rb.start h).alloc (.cells (aT 0 0) 27))
  have HLEN := Aside0.mk h.len
  have HP := Aside0.mk hp
  clear h hc hp
  go_enter Try.func27, Try.ntmps27
  go_upto_region 1 with fail
  generalize hw1 : w.alloc (.cells (aT 0 0) 27) = w1 at HB0 ⊢
  clear hw1
  go_upto_region 2 with (go_at_call 20; refine (RFirst_calls HB0.out.rl).mono ?_; rintro e w2 ⟨(⟨x, hx, rfl⟩ | ⟨hx, rfl⟩), hl⟩ <;> (have HX := Aside0.mk hx; have HB := Aside0.mk (HB0.out.below hl); clear hx hl))
  · have HB2 := Aside0.mk (HB.out.alloc (.cells (aT x.key x.mark) 27))
    try change Code.wp _ _ _ _ (w2.alloc (.cells (aT x.key x.mark) 27))
    generalize w2.alloc (.cells (aT x.key x.mark) 27) = w3 at HB2 ⊢
    generalize w2.heap.size = g5 at HB2 ⊢
    go_upto_region 4 with (go_at_call 29; refine (RDrop_calls HB2.out.rl x.id).mono ?_; rintro e w4 (⟨i, y, hy, ha, rfl, hn⟩ | ⟨ha, rfl, hn⟩) <;> (have HD := Aside0.mk (And.intro ha hn)))
    · have hxy : y = x := by have := best_at HP.out HX.out; rw [ha] at this; injection this
      subst hxy
      have HR : Aside0 (Rn rb B { r with L := rem r.L y.id } w3 w4) := ⟨by rw [← take_drop_rem HP.out hy]; exact hn⟩
      clear hy ha hn HD HB
      have HG : Aside0 (w4.heap[g5]? = some (.cells (aT y.key y.mark) 27 (0, 0)) ∧ w4.heap[w.heap.size]? = some (.cells (aT 0 0) 27 (0, 0)) ∧ Rn rb B { r with L := rem r.L y.id } w w4) := ⟨by
        have hb := HB2.out.hb
        have h5 := HB2.out.obj (g5, .cells (aT y.key y.mark) 27) (by simp)
        have h6 := HB2.out.obj (w.heap.size, .cells (aT 0 0) 27) (by simp)
        refine ⟨?_, ?_, HR.out.rl, HB2.out.fr.trans HR.out.fr⟩
        · exact (HR.out.fr.block g5 (Array.getElem?_eq_some_iff.1 h5.1).1 (by have := h5.2.1; simp only at this; omega) (by have := h5.2.1; simp only at this; omega)).trans h5.1
        · exact (HR.out.fr.block w.heap.size (Array.getElem?_eq_some_iff.1 h6.1).1 (by omega) (by omega)).trans h6.1⟩
      clear HR HB2
      have hb5 := HG.out.1
      have z0 : w4.cell? ⟨g5, 0, none⟩ = some (.int .i8 y.key) := by simp only [World.cell?, hb5]; rfl
      have z1 : w4.cell? ⟨g5, 1, none⟩ = some (.int .i64 y.mark) := by simp only [World.cell?, hb5]; rfl
      clear hb5
      go_wp2_with ((with_reducible refine gate_store (t := 27) (p := 2) rfl ?_); refine store_blk rfl 27 (.tmp 2) (.tmp 18) rfl w.heap.size 0 (aT y.key y.mark) (aT 0 0) 27 rfl rfl HG.out.2.1 (by simp) (by kernel_rfl) (by simp [Value.oneCell']) ?_; intro w9 hw9 hb9; have HS := Aside0.mk (And.intro hw9 hb9); clear hw9 hb9)
      exact bodyPost_ret (res_ctt (t := 27) rfl rfl rfl rfl HS.out.2 Try.underlying27 rfl (by kernel_rfl)) rfl (Or.inl ⟨y, HX.out, rfl, by rw [HS.out.1]; exact HG.out.2.2.box HG.out.2.1 _ _⟩)
    · exfalso
      have := best_at HP.out HX.out
      rw [HD.out.1] at this
      cases this
  · have HB2 := Aside0.mk (HB.out.alloc (.cells (aT 0 0) 27))
    try change Code.wp _ _ _ _ (w2.alloc (.cells (aT 0 0) 27))
    generalize w2.alloc (.cells (aT 0 0) 27) = w3 at HB2 ⊢
    generalize w2.heap.size = g5 at HB2 ⊢
    have HG : Aside0 (w3.heap[g5]? = some (.cells (aT 0 0) 27 (0, 0)) ∧ w3.heap[w.heap.size]? = some (.cells (aT 0 0) 27 (0, 0)) ∧ Rn rb B r w w3) := ⟨(HB2.out.obj (g5, .cells (aT 0 0) 27) (by simp)).1, (HB2.out.obj (w.heap.size, .cells (aT 0 0) 27) (by simp)).1, HB2.out.done⟩
    have hb5 := HG.out.1
    have z0 : w3.cell? ⟨g5, 0, none⟩ = some (.int .i8 0) := by simp only [World.cell?, hb5]; rfl
    have z1 : w3.cell? ⟨g5, 1, none⟩ = some (.int .i64 0) := by simp only [World.cell?, hb5]; rfl
    clear hb5
    go_wp2_with ((with_reducible refine gate_store (t := 27) (p := 2) rfl ?_); refine store_blk rfl 27 (.tmp 2) (.tmp 18) rfl w.heap.size 0 (aT 0 0) (aT 0 0) 27 rfl rfl HG.out.2.1 (by simp) (by kernel_rfl) (by simp [Value.oneCell']) ?_; intro w9 hw9 hb9; have HS := Aside0.mk (And.intro hw9 hb9); clear hw9 hb9)
    exact bodyPost_ret (res_ctt (t := 27) rfl rfl rfl rfl HS.out.2 Try.underlying27 rfl (by kernel_rfl)) rfl (Or.inr ⟨HX.out, rfl, by rw [HS.out.1]; exact HG.out.2.2.box HG.out.2.1 _ _⟩)
end Go.Proofs.Ythjppjcmapgkpaa.QAg
