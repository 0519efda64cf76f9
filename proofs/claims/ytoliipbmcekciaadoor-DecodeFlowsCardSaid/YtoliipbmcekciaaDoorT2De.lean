/- Decode: the document's Low and Owner walked. -/
import Derived.Test.YtoliipbmcekciaaDoorRCDe
namespace Go.Proofs.YtoliipbmcekciaaDoor.QDd
open Go.RowKit Go.Proofs.YtoliipbmcekciaaDoorW.PrintWords Go.Proofs.YtoliipbmcekciaaDoorW.PrintLast Go.Proofs.YtoliipbmcekciaaDoorW.PrintMore
open Go.Proofs.YtoliipbmcekciaaDoor.QDc (obj_below take_at yields_blk load_blk load_any store_blk blk_setCells setAll far_setCells below_setCells)
set_option linter.unusedVariables false
set_option linter.unusedSimpArgs false
def lowQ (C : Cf) (t : Int) (i : Nat) : Bool := hasBit (rd C.l0 (labT C (i : Int))) (labT C t)
def lowL (C : Cf) (t : Int) : Nat → List Int
  | 0 => []
  | m + 1 => if lowQ C t m = true then lowL C t m ++ [(m : Int)] else lowL C t m
theorem lowL_in {C : Cf} {t : Int} {i : Nat} (hi : lowQ C t i = true) : ∀ m, i < m → (lowL C t m).any (· == (i : Int)) = true
  | 0, h => absurd h (by omega)
  | m + 1, h => by
    unfold lowL
    by_cases e : i = m
    · subst e; rw [if_pos hi, List.any_append]; simp
    · have := lowL_in hi m (by omega)
      split
      · rw [List.any_append, this]; rfl
      · exact this
theorem low_yes {C : Cf} {t : Int} {m : Nat} {o : Int} (h : Bits o (lowL C t m)) (hq : lowQ C t m = true) (hm : m < 64) : Bits (bits .or .u64 o (shl .u64 1 (m : Int))) (lowL C t (m + 1)) := by
  unfold lowL
  rw [if_pos hq]
  exact bits_snoc h (by omega) (by omega)
theorem low_no {C : Cf} {t : Int} {m : Nat} {o : Int} (h : Bits o (lowL C t m)) (hq : lowQ C t m = false) : Bits o (lowL C t (m + 1)) := by
  unfold lowL
  rw [if_neg (by rw [hq]; decide)]
  exact h
def LowI (C : Cf) (t : Int) (w : World) (m : Nat) (o : Int) (wr : World) : Prop := OB C w wr ∧ m ≤ C.l1.length ∧ Bits o (lowL C t m)
set_option maxRecDepth 100000 in
set_option maxHeartbeats 2000000 in
theorem Low_calls (C : Cf) (t : Int) (w : World) (hC : C.At w) (hL : C.Lim) (hz : (chkF C).2 = 0) (ht : isTB C t = true) : Calls Tryd.prog 18 #[.agg C.v, .int .i64 t] w fun e w' => (∃ o, e = .returned (.tuple #[.int .u64 o, .int .i64 0]) ∧ Bits o (lowL C t C.l1.length)) ∧ Below w.heap.size w w' := by
  have HC := Aside0.mk hC
  have HL := Aside0.mk hL
  have HT := Aside0.mk ht
  have HGD := Aside0.mk (chk_good hz)
  obtain ⟨⟨cn, ce⟩, hck⟩ : ∃ q, chkF C = q := ⟨_, rfl⟩
  obtain rfl : ce = 0 := by rw [hck] at hz; exact hz
  have HCK := Aside0.mk hck
  clear hC hL ht hz hck
  go_enter Tryd.func18, Tryd.ntmps18
  go_upto_region 1 with fail
  have HO := Aside0.mk (OB.start C w)
  generalize w.alloc (.cells C.v 28) = w2 at HO ⊢
  go_upto_region 2 with (first | ((with_reducible refine gate_ (.load 28 (.tmp 2)) rfl ?_); refine load_blk rfl 28 (.tmp 2) rfl w.heap.size _ 28 rfl _ (HO.out).e0 Tryd.underlying28 rfl (by kernel_rfl) ?_) | (go_at_call 16; refine (Check_calls C _ (HC.out.below HO.out.b) HL.out).mono ?_; rintro e w3 ⟨rfl, hb⟩; rw [HCK.out]; have N1 := Aside0.mk hb; clear hb))
  have HO1 := Aside0.mk (HO.out.below N1.out)
  go_upto_region 6 with (first | ((with_reducible refine gate_ (.load 28 (.tmp 2)) rfl ?_); refine load_blk rfl 28 (.tmp 2) rfl w.heap.size _ 28 rfl _ (HO1.out).e0 Tryd.underlying28 rfl (by kernel_rfl) ?_) | (go_at_call 47; refine (ten_calls C t _).mono ?_; rintro e w4 ⟨rfl, hb⟩; rw [HT.out]; have N2 := Aside0.mk hb; clear hb))
  have HO2 := Aside0.mk (HO1.out.below N2.out)
  obtain ⟨A1, hA1⟩ : ∃ A, C.A1 = A := ⟨_, rfl⟩
  have HA1 := Aside0.mk hA1
  clear hA1
  have H0 : Aside0 (LowI C t w 0 0 w4) := ⟨⟨HO2.out, Nat.zero_le _, bits_nil⟩⟩
  clear HO HO1 HO2 N1 N2
  go_wp2_with fail
  go_loopw [8, 9] (fun o i wr => ∃ (m : Nat) (ov : Int), i = .int .i64 (m : Int) ∧ o = .int .u64 ov ∧ Aside0 (LowI C t w m ov wr)) (fun _ i _ => C.l1.length - (intOf i).toNat)
  case atStart => exact ⟨0, 0, rfl, rfl, H0⟩
  case round =>
    clear H0
    obtain ⟨m, ov, rfl, rfl, hS⟩ := hrel
    have x1 := (cf_cell hS.out.1.e0).2.1
    rw [HA1.out] at x1
    have hlim : C.l1.length ≤ 16 := HGD.out.t.1
    by_cases h1 : (m : Int) < (C.l1.length : Int)
    · have e1 : decide ((m : Int) < (C.l1.length : Int)) = true := decide_eq_true h1
      have H1 := Aside0.mk h1
      have h00 : (0 : Int) ≤ (m : Int) := by omega
      have htr : 0 ≤ t ∧ t < (C.l1.length : Int) := by have := HT.out; unfold isTB at this; exact of_decide_eq_true this
      obtain ⟨ht0, ht1⟩ := htr
      obtain ⟨ad, eA, y0, y1⟩ := at_T97 (HC.out.below hS.out.1.b).r1 (m : Int) h00 h1
      obtain ⟨ad2, eA2, q0, q1⟩ := at_T97 (HC.out.below hS.out.1.b).r1 t ht0 ht1
      obtain rfl : A1 = some ad := HA1.out.symm.trans eA
      cases HA1.out.symm.trans eA2
      have hlm := HGD.out.t.lab (t := (m : Int)) (by unfold isTB; exact decide_eq_true ⟨h00, h1⟩)
      rw [Int.toNat_natCast] at y0
      obtain ⟨la, hla⟩ : ∃ x, (rd_T97 C.l1 (m : Int)).f0 = x := ⟨_, rfl⟩
      obtain ⟨lt, hlt⟩ : ∃ x, (rd_T97 C.l1 t).f0 = x := ⟨_, rfl⟩
      rw [hla] at y0 hlm
      rw [hlt] at q0
      have HLA := Aside0.mk (And.intro hla hlm)
      have HLT := Aside0.mk hlt
      clear hla hlt hlm y1 q1
      obtain ⟨fb, hfb⟩ : ∃ b, hasBit (rd C.l0 la) lt = b := ⟨_, rfl⟩
      have HFB := Aside0.mk hfb
      have HLQ : Aside0 (lowQ C t m = fb) := ⟨by unfold lowQ labT; rw [HLA.out.1, HLT.out, hfb]⟩
      clear hfb
      go_upto_region 10 with fail
      cases fb with
      | false =>
        refine wp_region_held_drew (S := fun w' => Below wr.heap.size wr w') (by kernel_rfl) (pw_below_drewN (Below.refl _ _) 1) (fun hHeld => ?_)
        generalize wr.drew = wd at hHeld ⊢
        refine take_at (i := 0) (v := _) 29 rfl rfl (by kernel_rfl) (by kernel_rfl) (by kernel_rfl) (fun _ _ _ h => h) (yields_blk (by rfl) 28 (.tmp 2) rfl (w.heap.size) _ 28 rfl _ (fun w' hW => obj_below hW hS.out.1.e0) Tryd.underlying28 rfl (by kernel_rfl)) hHeld ?_
        try simp only [Act.put, List.setIfInBounds_toArray, List.set_cons_zero, List.set_cons_succ]
        refine take_at (i := 1) (v := _) 30 rfl rfl (by kernel_rfl) (by kernel_rfl) (by kernel_rfl) (fun _ _ _ h => h) (Or.inl ⟨by rfl, fun w' hW => by have hq0 := pw_cell_below hW x1; have hq1 := pw_cell_below hW y0; have hq2 := pw_cell_below hW q0; first | (go_simp; done) | (go_simp; with_reducible rfl) | (go_simp; rfl)⟩) hHeld ?_
        try simp only [Act.put, List.setIfInBounds_toArray, List.set_cons_zero, List.set_cons_succ]
        refine take_at (i := 3) (v := _) 32 rfl rfl (by kernel_rfl) (by kernel_rfl) (by kernel_rfl) (fun _ _ _ h => h) (Or.inl ⟨by rfl, fun w' hW => by have hq0 := pw_cell_below hW x1; have hq1 := pw_cell_below hW y0; have hq2 := pw_cell_below hW q0; first | (go_simp; done) | (go_simp; with_reducible rfl) | (go_simp; rfl)⟩) hHeld ?_
        try simp only [Act.put, List.setIfInBounds_toArray, List.set_cons_zero, List.set_cons_succ]
        refine take_at (i := 7) (v := _) 36 rfl rfl (by kernel_rfl) (by kernel_rfl) (by kernel_rfl) (fun _ _ _ h => h) (Or.inl ⟨by rfl, fun w' hW => by have hq0 := pw_cell_below hW x1; have hq1 := pw_cell_below hW y0; have hq2 := pw_cell_below hW q0; first | (go_simp; done) | (go_simp; with_reducible rfl) | (go_simp; rfl)⟩) hHeld ?_
        try simp only [Act.put, List.setIfInBounds_toArray, List.set_cons_zero, List.set_cons_succ]
        refine take_at (i := 9) (v := _) 38 rfl rfl (by kernel_rfl) (by kernel_rfl) (by kernel_rfl) (fun _ _ _ h => h) (Or.inl ⟨by rfl, fun w' hW => by have hq0 := pw_cell_below hW x1; have hq1 := pw_cell_below hW y0; have hq2 := pw_cell_below hW q0; first | (go_simp; done) | (go_simp; with_reducible rfl) | (go_simp; rfl)⟩) hHeld ?_
        try simp only [Act.put, List.setIfInBounds_toArray, List.set_cons_zero, List.set_cons_succ]
        refine take_at (i := 2) (v := _) 31 rfl rfl (by kernel_rfl) (by kernel_rfl) (by kernel_rfl) (fun _ _ _ h => h) (Or.inl ⟨by rfl, fun w' hW => by have hq0 := pw_cell_below hW x1; have hq1 := pw_cell_below hW y0; have hq2 := pw_cell_below hW q0; first | (go_simp; done) | (go_simp; with_reducible rfl) | (go_simp; rfl)⟩) hHeld ?_
        try simp only [Act.put, List.setIfInBounds_toArray, List.set_cons_zero, List.set_cons_succ]
        refine take_at (i := 8) (v := _) 37 rfl rfl (by kernel_rfl) (by kernel_rfl) (by kernel_rfl) (fun _ _ _ h => h) (Or.inl ⟨by rfl, fun w' hW => by have hq0 := pw_cell_below hW x1; have hq1 := pw_cell_below hW y0; have hq2 := pw_cell_below hW q0; first | (go_simp; done) | (go_simp; with_reducible rfl) | (go_simp; rfl)⟩) hHeld ?_
        try simp only [Act.put, List.setIfInBounds_toArray, List.set_cons_zero, List.set_cons_succ]
        refine take_at (i := 4) (v := _) 33 rfl rfl (by kernel_rfl) (by kernel_rfl) (by kernel_rfl) (fun _ _ _ h => h) (Or.inl ⟨by rfl, fun w' hW => by have hq0 := pw_cell_below hW x1; have hq1 := pw_cell_below hW y0; have hq2 := pw_cell_below hW q0; first | (go_simp; done) | (go_simp; with_reducible rfl) | (go_simp; rfl)⟩) hHeld ?_
        try simp only [Act.put, List.setIfInBounds_toArray, List.set_cons_zero, List.set_cons_succ]
        refine take_at (i := 10) (v := _) 39 rfl rfl (by kernel_rfl) (by kernel_rfl) (by kernel_rfl) (fun _ _ _ h => h) (Or.inl ⟨by rfl, fun w' hW => by have hq0 := pw_cell_below hW x1; have hq1 := pw_cell_below hW y0; have hq2 := pw_cell_below hW q0; first | (go_simp; done) | (go_simp; with_reducible rfl) | (go_simp; rfl)⟩) hHeld ?_
        try simp only [Act.put, List.setIfInBounds_toArray, List.set_cons_zero, List.set_cons_succ]
        refine take_at (i := 5) (v := _) 34 rfl rfl (by kernel_rfl) (by kernel_rfl) (by kernel_rfl) (fun _ _ _ h => h) (Or.inl ⟨by rfl, fun w' hW => by have hq0 := pw_cell_below hW x1; have hq1 := pw_cell_below hW y0; have hq2 := pw_cell_below hW q0; first | (go_simp; done) | (go_simp; with_reducible rfl) | (go_simp; rfl)⟩) hHeld ?_
        try simp only [Act.put, List.setIfInBounds_toArray, List.set_cons_zero, List.set_cons_succ]
        refine take_at (i := 11) (v := _) 40 rfl rfl (by kernel_rfl) (by kernel_rfl) (by kernel_rfl) (fun _ _ _ h => h) (Or.inl ⟨by rfl, fun w' hW => by have hq0 := pw_cell_below hW x1; have hq1 := pw_cell_below hW y0; have hq2 := pw_cell_below hW q0; first | (go_simp; done) | (go_simp; with_reducible rfl) | (go_simp; rfl)⟩) hHeld ?_
        try simp only [Act.put, List.setIfInBounds_toArray, List.set_cons_zero, List.set_cons_succ]
        refine take_at (i := 6) (v := _) 35 rfl rfl (by kernel_rfl) (by kernel_rfl) (by kernel_rfl) (fun _ _ _ h => h) (Or.inl ⟨by rfl, fun w' hW => by have hq0 := pw_cell_below hW x1; have hq1 := pw_cell_below hW y0; have hq2 := pw_cell_below hW q0; first | (go_simp; done) | (go_simp; with_reducible rfl) | (go_simp; rfl)⟩) hHeld ?_
        try simp only [Act.put, List.setIfInBounds_toArray, List.set_cons_zero, List.set_cons_succ]
        refine take_at (i := 12) (v := _) 41 rfl rfl (by kernel_rfl) (by kernel_rfl) (by kernel_rfl) (fun _ _ _ h => h) (Or.inl ⟨by rfl, fun w' hW => by have hq0 := pw_cell_below hW x1; have hq1 := pw_cell_below hW y0; have hq2 := pw_cell_below hW q0; first | (go_simp; done) | (go_simp; with_reducible rfl) | (go_simp; rfl)⟩) hHeld ?_
        try simp only [Act.put, List.setIfInBounds_toArray, List.set_cons_zero, List.set_cons_succ]
        have N0 := Aside0.mk hHeld
        refine wpAnyH_ready (rs := [13]) (by kernel_rfl) (by simp) ?_
        refine AllReadyH.cons rfl (fun K hK => ?_) AllReadyH.nil
        go_simp
        go_wp2_with (first | (go_at_call 48; refine (flo_calls C la lt _ (HC.out.below (hS.out.1.b.trans (N0.out.mono hS.out.1.b.size))) HL.out HLA.out.2.1 HLA.out.2.2).mono ?_; rintro e wf ⟨rfl, hb⟩; rw [HFB.out]; have N2 := Aside0.mk (below_step N0.out hb); clear hb))
        clear hHeld
        refine hK.out _ _ N2.out (fun hHeld => ?_)
        clear hK K
        try simp only [Act.put, List.setIfInBounds_toArray, List.set_cons_zero, List.set_cons_succ]
        refine wpAnyH_done (by kernel_rfl) ?_ _
        clear hHeld
        go_wp2_with fail
        go_roundw
        case rel => exact ⟨m + 1, _, by go_num, rfl, ⟨hS.out.1.below N2.out, by have := H1.out; omega, low_no hS.out.2.2 HLQ.out⟩⟩
        case measure => simp [intOf]; have := H1.out; omega
      | true =>
        refine wp_region_held_drew (S := fun w' => Below wr.heap.size wr w') (by kernel_rfl) (pw_below_drewN (Below.refl _ _) 1) (fun hHeld => ?_)
        generalize wr.drew = wd at hHeld ⊢
        refine take_at (i := 0) (v := _) 29 rfl rfl (by kernel_rfl) (by kernel_rfl) (by kernel_rfl) (fun _ _ _ h => h) (yields_blk (by rfl) 28 (.tmp 2) rfl (w.heap.size) _ 28 rfl _ (fun w' hW => obj_below hW hS.out.1.e0) Tryd.underlying28 rfl (by kernel_rfl)) hHeld ?_
        try simp only [Act.put, List.setIfInBounds_toArray, List.set_cons_zero, List.set_cons_succ]
        refine take_at (i := 1) (v := _) 30 rfl rfl (by kernel_rfl) (by kernel_rfl) (by kernel_rfl) (fun _ _ _ h => h) (Or.inl ⟨by rfl, fun w' hW => by have hq0 := pw_cell_below hW x1; have hq1 := pw_cell_below hW y0; have hq2 := pw_cell_below hW q0; first | (go_simp; done) | (go_simp; with_reducible rfl) | (go_simp; rfl)⟩) hHeld ?_
        try simp only [Act.put, List.setIfInBounds_toArray, List.set_cons_zero, List.set_cons_succ]
        refine take_at (i := 3) (v := _) 32 rfl rfl (by kernel_rfl) (by kernel_rfl) (by kernel_rfl) (fun _ _ _ h => h) (Or.inl ⟨by rfl, fun w' hW => by have hq0 := pw_cell_below hW x1; have hq1 := pw_cell_below hW y0; have hq2 := pw_cell_below hW q0; first | (go_simp; done) | (go_simp; with_reducible rfl) | (go_simp; rfl)⟩) hHeld ?_
        try simp only [Act.put, List.setIfInBounds_toArray, List.set_cons_zero, List.set_cons_succ]
        refine take_at (i := 7) (v := _) 36 rfl rfl (by kernel_rfl) (by kernel_rfl) (by kernel_rfl) (fun _ _ _ h => h) (Or.inl ⟨by rfl, fun w' hW => by have hq0 := pw_cell_below hW x1; have hq1 := pw_cell_below hW y0; have hq2 := pw_cell_below hW q0; first | (go_simp; done) | (go_simp; with_reducible rfl) | (go_simp; rfl)⟩) hHeld ?_
        try simp only [Act.put, List.setIfInBounds_toArray, List.set_cons_zero, List.set_cons_succ]
        refine take_at (i := 9) (v := _) 38 rfl rfl (by kernel_rfl) (by kernel_rfl) (by kernel_rfl) (fun _ _ _ h => h) (Or.inl ⟨by rfl, fun w' hW => by have hq0 := pw_cell_below hW x1; have hq1 := pw_cell_below hW y0; have hq2 := pw_cell_below hW q0; first | (go_simp; done) | (go_simp; with_reducible rfl) | (go_simp; rfl)⟩) hHeld ?_
        try simp only [Act.put, List.setIfInBounds_toArray, List.set_cons_zero, List.set_cons_succ]
        refine take_at (i := 2) (v := _) 31 rfl rfl (by kernel_rfl) (by kernel_rfl) (by kernel_rfl) (fun _ _ _ h => h) (Or.inl ⟨by rfl, fun w' hW => by have hq0 := pw_cell_below hW x1; have hq1 := pw_cell_below hW y0; have hq2 := pw_cell_below hW q0; first | (go_simp; done) | (go_simp; with_reducible rfl) | (go_simp; rfl)⟩) hHeld ?_
        try simp only [Act.put, List.setIfInBounds_toArray, List.set_cons_zero, List.set_cons_succ]
        refine take_at (i := 8) (v := _) 37 rfl rfl (by kernel_rfl) (by kernel_rfl) (by kernel_rfl) (fun _ _ _ h => h) (Or.inl ⟨by rfl, fun w' hW => by have hq0 := pw_cell_below hW x1; have hq1 := pw_cell_below hW y0; have hq2 := pw_cell_below hW q0; first | (go_simp; done) | (go_simp; with_reducible rfl) | (go_simp; rfl)⟩) hHeld ?_
        try simp only [Act.put, List.setIfInBounds_toArray, List.set_cons_zero, List.set_cons_succ]
        refine take_at (i := 4) (v := _) 33 rfl rfl (by kernel_rfl) (by kernel_rfl) (by kernel_rfl) (fun _ _ _ h => h) (Or.inl ⟨by rfl, fun w' hW => by have hq0 := pw_cell_below hW x1; have hq1 := pw_cell_below hW y0; have hq2 := pw_cell_below hW q0; first | (go_simp; done) | (go_simp; with_reducible rfl) | (go_simp; rfl)⟩) hHeld ?_
        try simp only [Act.put, List.setIfInBounds_toArray, List.set_cons_zero, List.set_cons_succ]
        refine take_at (i := 10) (v := _) 39 rfl rfl (by kernel_rfl) (by kernel_rfl) (by kernel_rfl) (fun _ _ _ h => h) (Or.inl ⟨by rfl, fun w' hW => by have hq0 := pw_cell_below hW x1; have hq1 := pw_cell_below hW y0; have hq2 := pw_cell_below hW q0; first | (go_simp; done) | (go_simp; with_reducible rfl) | (go_simp; rfl)⟩) hHeld ?_
        try simp only [Act.put, List.setIfInBounds_toArray, List.set_cons_zero, List.set_cons_succ]
        refine take_at (i := 5) (v := _) 34 rfl rfl (by kernel_rfl) (by kernel_rfl) (by kernel_rfl) (fun _ _ _ h => h) (Or.inl ⟨by rfl, fun w' hW => by have hq0 := pw_cell_below hW x1; have hq1 := pw_cell_below hW y0; have hq2 := pw_cell_below hW q0; first | (go_simp; done) | (go_simp; with_reducible rfl) | (go_simp; rfl)⟩) hHeld ?_
        try simp only [Act.put, List.setIfInBounds_toArray, List.set_cons_zero, List.set_cons_succ]
        refine take_at (i := 11) (v := _) 40 rfl rfl (by kernel_rfl) (by kernel_rfl) (by kernel_rfl) (fun _ _ _ h => h) (Or.inl ⟨by rfl, fun w' hW => by have hq0 := pw_cell_below hW x1; have hq1 := pw_cell_below hW y0; have hq2 := pw_cell_below hW q0; first | (go_simp; done) | (go_simp; with_reducible rfl) | (go_simp; rfl)⟩) hHeld ?_
        try simp only [Act.put, List.setIfInBounds_toArray, List.set_cons_zero, List.set_cons_succ]
        refine take_at (i := 6) (v := _) 35 rfl rfl (by kernel_rfl) (by kernel_rfl) (by kernel_rfl) (fun _ _ _ h => h) (Or.inl ⟨by rfl, fun w' hW => by have hq0 := pw_cell_below hW x1; have hq1 := pw_cell_below hW y0; have hq2 := pw_cell_below hW q0; first | (go_simp; done) | (go_simp; with_reducible rfl) | (go_simp; rfl)⟩) hHeld ?_
        try simp only [Act.put, List.setIfInBounds_toArray, List.set_cons_zero, List.set_cons_succ]
        refine take_at (i := 12) (v := _) 41 rfl rfl (by kernel_rfl) (by kernel_rfl) (by kernel_rfl) (fun _ _ _ h => h) (Or.inl ⟨by rfl, fun w' hW => by have hq0 := pw_cell_below hW x1; have hq1 := pw_cell_below hW y0; have hq2 := pw_cell_below hW q0; first | (go_simp; done) | (go_simp; with_reducible rfl) | (go_simp; rfl)⟩) hHeld ?_
        try simp only [Act.put, List.setIfInBounds_toArray, List.set_cons_zero, List.set_cons_succ]
        have N0 := Aside0.mk hHeld
        refine wpAnyH_ready (rs := [13]) (by kernel_rfl) (by simp) ?_
        refine AllReadyH.cons rfl (fun K hK => ?_) AllReadyH.nil
        go_simp
        go_wp2_with (first | (go_at_call 48; refine (flo_calls C la lt _ (HC.out.below (hS.out.1.b.trans (N0.out.mono hS.out.1.b.size))) HL.out HLA.out.2.1 HLA.out.2.2).mono ?_; rintro e wf ⟨rfl, hb⟩; rw [HFB.out]; have N2 := Aside0.mk (below_step N0.out hb); clear hb))
        clear hHeld
        refine hK.out _ _ N2.out (fun hHeld => ?_)
        clear hK K
        try simp only [Act.put, List.setIfInBounds_toArray, List.set_cons_zero, List.set_cons_succ]
        refine wpAnyH_done (by kernel_rfl) ?_ _
        clear hHeld
        go_wp2_with fail
        go_roundw
        case rel => exact ⟨m + 1, _, by go_num, rfl, ⟨hS.out.1.below N2.out, by have := H1.out; omega, by rw [show IntKind.u64.wrap (2 ^ m) = shl .u64 1 (m : Int) from shl_one h00 (by have := H1.out; omega)]; exact low_yes hS.out.2.2 HLQ.out (by have := H1.out; omega)⟩⟩
        case measure => simp [intOf]; have := H1.out; omega
    · have e1 : decide ((m : Int) < (C.l1.length : Int)) = false := decide_eq_false h1
      have hm : m = C.l1.length := by have := hS.out.2.1; omega
      have HM := Aside0.mk hm
      clear hm
      go_wp2_with fail
      go_ret2
      exact ⟨⟨ov, rfl, by have := hS.out.2.2; rw [HM.out] at this; exact this⟩, hS.out.1.b⟩
set_option maxRecDepth 100000 in
set_option maxHeartbeats 2000000 in
theorem Row_calls (A : Option Addr) (c n : Nat) (w : World) (h1 : 1 ≤ n) (h2 : n ≤ 64) : Calls Tryd.prog 49 #[.slice A n c] w fun e w' => e = .returned (.bool true) ∧ Below w.heap.size w w' := by
  have d1 : decide ((n : Int) ≥ 1) = true := decide_eq_true (by omega)
  have d1' : decide (1 ≤ (n : Int)) = true := d1
  have d1'' : decide (1 ≤ n) = true := decide_eq_true h1
  have d2 : decide ((n : Int) ≤ 64) = true := decide_eq_true (by omega)
  have d2' : decide (n ≤ 64) = true := decide_eq_true h2
  go_enter Tryd.func49, Tryd.ntmps49
  go_wp2
  go_ret
  exact ⟨rfl, Below.refl _ _⟩
theorem Tick0_calls (w : World) : Calls Tryd.prog 50 #[.int .i64 0] w fun e w' => e = .returned (.bool true) ∧ Below w.heap.size w w' := by
  go_enter Tryd.func50, Tryd.ntmps50
  go_wp2
  go_ret
  exact ⟨rfl, Below.refl _ _⟩
set_option maxRecDepth 100000 in
set_option maxHeartbeats 2000000 in
theorem Owner0_calls (A : Option Addr) (c : Nat) (l : List Int) (w : World) (h1 : 1 ≤ l.length) (h2 : l.length ≤ 64) (hr : Kd.C (Kd.int .i64) w A l.length l) : Calls Tryd.prog 19 #[.slice A l.length c, .int .i64 0] w fun e w' => e = .returned (.tuple #[.int .i64 (rd l 0), .int .i64 0]) ∧ Below w.heap.size w w' := by
  have HR := Aside0.mk hr
  have HN := Aside0.mk (And.intro h1 h2)
  clear hr
  go_enter Tryd.func19, Tryd.ntmps19
  go_upto_region 3 with (first | (go_at_call 49; refine (Row_calls A c l.length _ HN.out.1 HN.out.2).mono ?_; rintro e w2 ⟨rfl, hb⟩; have N1 := Aside0.mk hb; clear hb) | (go_at_call 50; refine (Tick0_calls _).mono ?_; rintro e w3 ⟨rfl, hb⟩; have N2 := Aside0.mk (N1.out.trans (hb.mono N1.out.size)); clear hb))
  obtain ⟨ad, eA, y0⟩ := Kd.at_int (Kd.C_below HR.out N2.out) 0 (by decide) (by omega)
  subst eA
  have y1 : w3.cell? ad = some (.int .i64 (rd l 0)) := by cases ad; exact y0
  have hz : ¬ (l.length : Int) = 0 := by omega
  have hm : Int.tmod 0 (l.length : Int) = 0 := Int.zero_tmod _
  go_wp2_with fail
  go_ret2
  exact ⟨rfl, N2.out⟩
end Go.Proofs.YtoliipbmcekciaaDoor.QDd
