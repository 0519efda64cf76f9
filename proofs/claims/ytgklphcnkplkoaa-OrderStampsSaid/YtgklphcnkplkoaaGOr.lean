/- OrderStamps: the program's Sorted, walked. -/
import Derived.Test.YtgklphcnkplkoaaFOr
namespace Go.Proofs.Ytgklphcnkplkoaa.QSt
open Go.RowKit Go.Proofs.YtgklphcnkplkoaaW.PrintWords Go.Proofs.YtgklphcnkplkoaaW.PrintLast Go.Proofs.YtgklphcnkplkoaaW.PrintMore
open Go.Proofs.Ytgklphcnkplkoaa.SK (St enc flat flat_len flat_get)
set_option linter.unusedVariables false
set_option linter.unusedSimpArgs false
structure S1 (e : Nat) (w : World) (L : List St) (m : Nat) (v : Value) (wr : World) : Prop where
  b : Below w.heap.size w wr
  le : m ≤ L.length
  r : Kd.R kS e wr w.heap.size (fun _ => True) v (L.take m)
set_option maxRecDepth 100000 in
set_option maxHeartbeats 4000000 in
theorem Sorted_calls (A : Option Addr) (c : Nat) (L : List St) (w : World) (hr : Kd.C kS w A L.length L) (hc : L.length ≤ c) (h40 : L.length ≤ 40) :
    Calls Try.prog 28 #[.slice A L.length c] w fun e w' => ∃ v, e = .returned v ∧ Kd.R kS 29 w' w.heap.size (fun _ => True) v (cptN (0, 0) (srt L) (srt L).length) ∧ Below w.heap.size w w' := by
  have HR := Aside0.mk hr
  have H40 := Aside0.mk h40
  clear hr hc
  have H0 : Aside0 (S1 58 w L 0 (.slice none 0 0) w) := ⟨⟨Below.refl _ _, Nat.zero_le _, Kd.R_nil _ _ _ _ _⟩⟩
  go_enter Try.func28, Try.ntmps28
  go_upto_region 3 with fail
  go_loopw [3, 11] (fun s i wr => ∃ m : Nat, i = .int .i64 (m : Int) ∧ Aside0 (S1 58 w L m s wr)) (fun _ i _ => L.length - (intOf i).toNat)
  case atStart => exact ⟨0, rfl, H0⟩
  case round =>
    clear H0
    obtain ⟨m, rfl, hS⟩ := hrel
    by_cases h1 : m < L.length
    · have H1 := Aside0.mk h1
      have d1 : decide ((m : Int) < (L.length : Int)) = true := decide_eq_true (by omega)
      have d2 : decide (m < L.length) = true := decide_eq_true h1
      have hx0 : (0 : Int) ≤ (m : Int) := by omega
      have hx1 : (m : Int) < (L.length : Int) := by omega
      have hw : wrap64 ((m : Int) + 1) = (m : Int) + 1 := by have := H40.out; unfold wrap64; omega
      have HH : Aside0 (L.length - ((m : Int) + 1).toNat < L.length - ((m : Int)).toNat) := ⟨by omega⟩
      obtain ⟨ad, eA, hcell⟩ := st_at (Kd.C_below HR.out hS.out.b) m h1
      subst eA
      have HST : Aside0 (∀ x, x = L.getD m (0, 0) → L.take m ++ [x] = L.take (m + 1)) := ⟨fun x hx => by rw [List.take_succ_eq_append_getElem h1, hx, List.getD_eq_getElem?_getD, List.getElem?_eq_getElem h1]; rfl⟩
      obtain ⟨x, hx⟩ : ∃ x, L.getD m (0, 0) = x := ⟨_, rfl⟩
      rw [hx] at hcell
      have HX := Aside0.mk hcell
      have HXE := Aside0.mk hx
      clear hcell hx h1
      go_upto_region 5 with (first | ((with_reducible refine gate_ (.load 29 (.tmp 13)) rfl ?_); refine load_any rfl 29 (.tmp 13) rfl (ad.add (m * 2)) rfl (cS x) _ HX.out Try.underlying29 rfl (by kernel_rfl) ?_))
      have B3 : Aside0 (Below wr.heap.size wr (wr.alloc (.cells (cS x) 29))) := ⟨(Below.refl _ _).alloc (Nat.le_refl _) _⟩
      have X3 : Aside0 ((wr.alloc (.cells (cS x) 29)).heap[wr.heap.size]? = some (.cells (cS x) 29 (0, 0))) := ⟨World.alloc_heap_new _ _⟩
      generalize wr.alloc (.cells (cS x) 29) = w3 at B3 X3 ⊢
      have BW : Aside0 (Below w.heap.size w w3) := ⟨hS.out.b.trans (B3.out.mono hS.out.b.size)⟩
      have RW := Aside0.mk (Kd.R_below hS.out.r B3.out)
      go_upto_region 6 with (first | ((with_reducible refine gate_ (.load 29 (.tmp 5)) rfl ?_); refine load_blk rfl 29 (.tmp 5) rfl wr.heap.size (cS x) 29 rfl _ X3.out Try.underlying29 rfl (by kernel_rfl) ?_) | ((with_reducible refine gate_builtin (b := .append) rfl ?_); at_builtin; refine Kd.R_append kS (w0 := w) w.heap.size rfl (.tmp 15) (.tmp 17) 60 58 _ 16 rfl Try.underlying60 infoS58 rfl (by decide) (by decide) _ (L.take m) x _ (fun _ => True) (fun _ => False) rfl rfl (kS_mkM _ _ _ _) (fun _ h => h.elim) (fun _ _ => trivial) RW.out BW.out BW.out.size (by rw [List.length_take]; have := H40.out; omega) ?_; intro v4 w4 hR hB hg hat; have R4 := Aside0.mk hR; have B4 := Aside0.mk hB; clear hR hB hg hat))
      have HS4 : Aside0 (S1 58 w L (m + 1) v4 w4) := ⟨⟨B4.out, by have := H1.out; omega, by rw [← HST.out x HXE.out.symm]; exact R4.out⟩⟩
      go_wp2_with fail
      exact ⟨⟨m + 1, by first | rfl | (rw [hw]; rfl), HS4⟩, by first | exact HH.out | (rw [hw]; exact HH.out)⟩
    · have d1 : decide ((m : Int) < (L.length : Int)) = false := decide_eq_false (by omega)
      have d2 : decide (m < L.length) = false := decide_eq_false h1
      have hm : m = L.length := by have := hS.out.le; omega
      subst hm
      have HRR := Aside0.mk hS.out.r
      rw [List.take_length] at HRR
      have HBB := Aside0.mk hS.out.b
      clear hS h1
      obtain ⟨At, ct, eo, hct, hCt⟩ := Kd.R_reads HRR.out
      subst eo
      clear hct hCt
      go_upto_region 8 with (go_at_call 34; refine (sortR HRR.out H40.out).mono ?_; rintro e w2 ⟨rfl, hR, hB⟩; have R2 := Aside0.mk hR; have B2 := Aside0.mk (HBB.out.trans hB); clear hR hB)
      have HL2 : Aside0 ((srt L).length ≤ 40) := ⟨by rw [srt_len]; exact H40.out⟩
      obtain ⟨M, hM⟩ : ∃ M, M = cptN (0, 0) (srt L) (srt L).length := ⟨_, rfl⟩
      have HM40 : Aside0 (M.length ≤ 40) := ⟨by rw [hM]; have := cptN_le (0, 0) (srt L) (srt L).length; have := HL2.out; omega⟩
      have HM := Aside0.mk hM
      clear hM
      go_upto_region 10 with (go_at_call 35; refine (compR R2.out HL2.out B2.out.size).mono ?_; rw [← HM.out]; rintro e w5 ⟨B, cp, rfl, hcp, hC, hB⟩; have HCM := Aside0.mk hC; have B5 := Aside0.mk (B2.out.trans (hB.mono (Nat.le_refl _))); clear hC hB)
      clear d1 d2
      obtain ⟨wo, hwo⟩ : ∃ q, q = w5 := ⟨_, rfl⟩
      subst hwo
      have H0 : Aside0 (S1 29 wo M 0 (.slice none 0 0) wo) := ⟨⟨Below.refl _ _, Nat.zero_le _, Kd.R_nil _ _ _ _ _⟩⟩
      go_loopw [6, 25] (fun s i wr => ∃ m : Nat, i = .int .i64 (m : Int) ∧ Aside0 (S1 29 wo M m s wr)) (fun _ i _ => M.length - (intOf i).toNat)
      case atStart => exact ⟨0, rfl, H0⟩
      case round =>
        clear H0
        obtain ⟨m, rfl, hS⟩ := hrel
        by_cases h1 : m < M.length
        · have H1 := Aside0.mk h1
          have d1 : decide ((m : Int) < (M.length : Int)) = true := decide_eq_true (by omega)
          have d2 : decide (m < M.length) = true := decide_eq_true h1
          have hx0 : (0 : Int) ≤ (m : Int) := by omega
          have hx1 : (m : Int) < (M.length : Int) := by omega
          have hw : wrap64 ((m : Int) + 1) = (m : Int) + 1 := by have := HM40.out; unfold wrap64; omega
          have HH : Aside0 (M.length - ((m : Int) + 1).toNat < M.length - ((m : Int)).toNat) := ⟨by omega⟩
          obtain ⟨ad, eA, hcell⟩ := st_at (Kd.C_below HCM.out hS.out.b) m h1
          subst eA
          have HST : Aside0 (∀ x, x = M.getD m (0, 0) → M.take m ++ [x] = M.take (m + 1)) := ⟨fun x hx => by rw [List.take_succ_eq_append_getElem h1, hx, List.getD_eq_getElem?_getD, List.getElem?_eq_getElem h1]; rfl⟩
          obtain ⟨x, hx⟩ : ∃ x, M.getD m (0, 0) = x := ⟨_, rfl⟩
          rw [hx] at hcell
          have HX := Aside0.mk hcell
          have HXE := Aside0.mk hx
          clear hcell hx h1
          go_upto_region 12 with (first | ((with_reducible refine gate_ (.load 58 (.tmp 27)) rfl ?_); refine load_any rfl 58 (.tmp 27) rfl (ad.add (m * 2)) rfl (cS x) _ HX.out Try.underlying58 rfl (by kernel_rfl) ?_))
          have B3 : Aside0 (Below wr.heap.size wr (wr.alloc (.cells (cS x) 58))) := ⟨(Below.refl _ _).alloc (Nat.le_refl _) _⟩
          have X3 : Aside0 ((wr.alloc (.cells (cS x) 58)).heap[wr.heap.size]? = some (.cells (cS x) 58 (0, 0))) := ⟨World.alloc_heap_new _ _⟩
          generalize wr.alloc (.cells (cS x) 58) = w3 at B3 X3 ⊢
          have BW : Aside0 (Below wo.heap.size wo w3) := ⟨hS.out.b.trans (B3.out.mono hS.out.b.size)⟩
          have RW := Aside0.mk (Kd.R_below hS.out.r B3.out)
          go_upto_region 13 with (first | ((with_reducible refine gate_ (.load 58 (.tmp 8)) rfl ?_); refine load_blk rfl 58 (.tmp 8) rfl wr.heap.size (cS x) 58 rfl _ X3.out Try.underlying58 rfl (by kernel_rfl) ?_) | ((with_reducible refine gate_builtin (b := .append) rfl ?_); at_builtin; refine Kd.R_append kS (w0 := wo) wo.heap.size rfl (.tmp 29) (.tmp 31) 52 29 _ 16 rfl Try.underlying52 infoS29 rfl (by decide) (by decide) _ (M.take m) x _ (fun _ => True) (fun _ => False) rfl rfl (kS_mkM _ _ _ _) (fun _ h => h.elim) (fun _ _ => trivial) RW.out BW.out BW.out.size (by rw [List.length_take]; have := HM40.out; omega) ?_; intro v4 w4 hR hB hg hat; have R4 := Aside0.mk hR; have B4 := Aside0.mk hB; clear hR hB hg hat))
          have HS4 : Aside0 (S1 29 wo M (m + 1) v4 w4) := ⟨⟨B4.out, by have := H1.out; omega, by rw [← HST.out x HXE.out.symm]; exact R4.out⟩⟩
          go_wp2_with fail
          exact ⟨⟨m + 1, by first | rfl | (rw [hw]; rfl), HS4⟩, by first | exact HH.out | (rw [hw]; exact HH.out)⟩
        · have d1 : decide ((m : Int) < (M.length : Int)) = false := decide_eq_false (by omega)
          have d2 : decide (m < M.length) = false := decide_eq_false h1
          have hm : m = M.length := by have := hS.out.le; omega
          subst hm
          have HR3 := Aside0.mk hS.out.r
          rw [List.take_length] at HR3
          have HB3 := Aside0.mk hS.out.b
          clear hS h1
          go_wp2_with fail
          go_ret
          exact ⟨_, rfl, by rw [← HM.out]; exact Kd.R_lower HR3.out B5.out.size, B5.out.trans (HB3.out.mono B5.out.size)⟩
end Go.Proofs.Ytgklphcnkplkoaa.QSt
