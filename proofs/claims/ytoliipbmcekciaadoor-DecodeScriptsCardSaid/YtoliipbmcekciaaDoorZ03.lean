/- Texts of this claim, joined: RBDe. -/
import Derived.Test.YtoliipbmcekciaaDoorZ02
namespace Go.Proofs.YtoliipbmcekciaaDoor.QDd
open Go.RowKit Go.Proofs.YtoliipbmcekciaaDoorW.PrintWords Go.Proofs.YtoliipbmcekciaaDoorW.PrintLast Go.Proofs.YtoliipbmcekciaaDoorW.PrintMore
open Go.Proofs.YtoliipbmcekciaaDoor.QDc (tk putL putN obj_below take_at yields_blk load_blk load_any store_blk blk_setCells setAll far_setCells below_setCells)
set_option linter.unusedVariables false
set_option linter.unusedSimpArgs false
def okFr (C : Cf) (i : Nat) : Bool := isTB C (rd C.l4 (i : Int))
def inFr (C : Cf) (t : Nat) : Bool := C.l4.any (· == (t : Int))
def fraG (C : Cf) : Option (Nat × Int) → Int × Int
  | some (i, e) => ((i : Int), e)
  | none => toldOf (scan (fun t => if inFr C t = true then 0 else 47) 0 C.l1.length)
def fraF (C : Cf) : Int × Int := if C.l4.length > 64 then (0, 3) else if C.l4.length = 0 then (0, 47) else fraG C (scan (fun i => if okFr C i = true then 0 else 47) 0 C.l4.length)
def Bits (th : Int) (l : List Int) : Prop := U64 th ∧ ∀ t : Nat, t < 64 → hasBit th (t : Int) = l.any (· == (t : Int))
theorem bits_nil : Bits 0 [] := ⟨⟨by decide, by decide⟩, fun t ht => by
  have := hasBit_nat 0 t (by decide) ht
  rw [show ((0 : Nat) : Int) = 0 from rfl] at this
  rw [this, Nat.zero_testBit]; rfl⟩
theorem bits_snoc {th x : Int} {l : List Int} (h : Bits th l) (h0 : 0 ≤ x) (h1 : x < 64) : Bits (bits .or .u64 th (shl .u64 1 x)) (l ++ [x]) := by
  obtain ⟨⟨a, b⟩, hb⟩ := h
  obtain ⟨n, rfl⟩ := Int.eq_ofNat_of_zero_le a
  obtain ⟨i, rfl⟩ := Int.eq_ofNat_of_zero_le h0
  have hp : (2 : Nat) ^ i < 18446744073709551616 := by
    have : (2 : Nat) ^ i ≤ 2 ^ 63 := Nat.pow_le_pow_right (by decide) (by omega)
    omega
  have e : shl .u64 1 (i : Int) = ((2 ^ i : Nat) : Int) := by
    unfold shl
    rw [IntKind.wrap_u64, Int.toNat_natCast, show min i IntKind.u64.bits = i by show min i 64 = _; omega, show (2 : Int) ^ i = ((2 ^ i : Nat) : Int) by push_cast; rfl, Int.one_mul]
    generalize 2 ^ i = p at hp ⊢
    omega
  rw [e, bits_or_u64_nat n (2 ^ i) (by omega) hp]
  have hlt : n ||| 2 ^ i < 18446744073709551616 := by
    have := Nat.or_lt_two_pow (n := 64) (x := n) (y := 2 ^ i) (by omega) (by omega)
    omega
  refine ⟨⟨by omega, by omega⟩, fun t ht => ?_⟩
  have h2 := hb t ht
  rw [hasBit_nat _ _ (by omega) ht] at h2
  rw [hasBit_nat _ _ hlt ht, Nat.testBit_or, h2, Nat.testBit_two_pow, List.any_append]
  congr 1
  rw [Bool.eq_iff_iff]
  simp
  omega
theorem shl_one {x : Int} (h0 : 0 ≤ x) (h1 : x < 64) : IntKind.u64.wrap (2 ^ x.toNat) = shl .u64 1 x := by
  obtain ⟨i, rfl⟩ := Int.eq_ofNat_of_zero_le h0
  unfold shl
  rw [Int.toNat_natCast, show min i IntKind.u64.bits = i by show min i 64 = _; omega, Int.one_mul]
theorem take_rd {l : List Int} {m : Nat} (h : m < l.length) : l.take (m + 1) = l.take m ++ [rd l (m : Int)] := by
  rw [List.take_succ_eq_append_getElem h]
  unfold rd
  rw [Int.toNat_natCast, List.getD_eq_getElem?_getD, List.getElem?_eq_getElem h]
  rfl
def FraI (C : Cf) (w : World) (m : Nat) (th : Int) (wr : World) : Prop := TB C w wr ∧ m ≤ C.l4.length ∧ (∀ j, j < m → okFr C j = true) ∧ Bits th (C.l4.take m)
def FraJ (C : Cf) (w : World) (m : Nat) (wr : World) : Prop := TB C w wr ∧ m ≤ C.l1.length ∧ ∀ j, j < m → inFr C j = true
set_option maxRecDepth 100000 in
set_option maxHeartbeats 2000000 in
theorem frame_calls (C : Cf) (w : World) (hC : C.At w) (hL : C.Lim) (hT : C.l1.length ≤ 16) : Calls Tryd.prog 41 #[.agg C.v] w fun e w' => e = .returned (.agg #[.int .i64 (fraF C).1, .int .i64 (fraF C).2]) ∧ Below w.heap.size w w' := by
  have HC := Aside0.mk hC
  have HL := Aside0.mk hL
  clear hC hL
  have HL16 := Aside0.mk hT
  clear hT
  have key : ∀ q : Int × Int, fraF C = q → Calls Tryd.prog 41 #[.agg C.v] w fun e w' => e = .returned (.agg #[.int .i64 q.1, .int .i64 q.2]) ∧ Below w.heap.size w w' := by
    rintro ⟨qn, qe⟩ hq
    have HQ := Aside0.mk hq
    clear hq
    go_enter Tryd.func41, Tryd.ntmps41
    go_upto_region 1 with fail
    have HT := Aside0.mk (TB.start C w)
    generalize ((w.alloc (.cells C.v 28)).alloc (.cells #[.int .i64 0, .int .i64 0] 90)) = w2 at HT ⊢
    obtain ⟨z0, z1, f0, f1⟩ := HT.out.r
    obtain ⟨A4, hA4⟩ : ∃ A, C.A4 = A := ⟨_, rfl⟩
    have HA4 := Aside0.mk hA4
    clear hA4
    have x4 := (cf_cell HT.out.e0).2.2.2.2.1
    rw [HA4.out] at x4
    obtain ⟨A1, hA1⟩ : ∃ A, C.A1 = A := ⟨_, rfl⟩
    have HA1 := Aside0.mk hA1
    clear hA1
    have x1 := (cf_cell HT.out.e0).2.1
    rw [HA1.out] at x1
    by_cases h64 : C.l4.length > 64
    · have d1 : decide ((C.l4.length : Int) > 64) = true := decide_eq_true (by omega)
      have d1' : decide (64 < C.l4.length) = true := decide_eq_true h64
      have e : fraF C = (0, 3) := by unfold fraF; exact if_pos h64
      rw [HQ.out] at e
      simp only [Prod.mk.injEq] at e
      obtain ⟨rfl, rfl⟩ := e
      go_wp2_with fail
      obtain ⟨g0, g1, g2⟩ := HT.out.fin 0 3
      generalize ((w2.setCell ⟨w.heap.size + 1, 0, none⟩ (.int .i64 0)).setCell ⟨w.heap.size + 1, 1, none⟩ (.int .i64 3)) = w3 at g0 g1 g2 ⊢
      exact bodyPost_ret (v := .agg #[.int .i64 0, .int .i64 3]) (by simp [results, Tryd.results41, go_sem, g1, g2]) rfl ⟨rfl, g0⟩
    · have d1 : decide ((C.l4.length : Int) > 64) = false := decide_eq_false (by omega)
      have d1' : decide (64 < C.l4.length) = false := decide_eq_false h64
      by_cases h0 : C.l4.length = 0
      · have d2 : ((C.l4.length : Int) == 0) = true := by simpa using h0
        have e : fraF C = (0, 47) := by unfold fraF; rw [if_neg h64, if_pos h0]
        rw [HQ.out] at e
        simp only [Prod.mk.injEq] at e
        obtain ⟨rfl, rfl⟩ := e
        go_wp2_with fail
        obtain ⟨g0, g1, g2⟩ := HT.out.fin 0 47
        generalize ((w2.setCell ⟨w.heap.size + 1, 0, none⟩ (.int .i64 0)).setCell ⟨w.heap.size + 1, 1, none⟩ (.int .i64 47)) = w3 at g0 g1 g2 ⊢
        exact bodyPost_ret (v := .agg #[.int .i64 0, .int .i64 47]) (by simp [results, Tryd.results41, go_sem, g1, g2]) rfl ⟨rfl, g0⟩
      · have d2 : ((C.l4.length : Int) == 0) = false := by simpa using h0
        have e : fraF C = fraG C (scan (fun i => if okFr C i = true then 0 else 47) 0 C.l4.length) := by unfold fraF; rw [if_neg h64, if_neg h0]
        have HE := Aside0.mk (HQ.out.symm.trans e)
        clear e
        have H0 : Aside0 (FraI C w 0 0 w2) := ⟨⟨HT.out, Nat.zero_le _, fun j hj => absurd hj (by omega), bits_nil⟩⟩
        go_wp2_with fail
        go_loopw [3, 4] (fun t i wr => ∃ (m : Nat) (th : Int), i = .int .i64 (m : Int) ∧ t = .int .u64 th ∧ Aside0 (FraI C w m th wr)) (fun _ i _ => C.l4.length - (intOf i).toNat)
        case atStart => exact ⟨0, 0, rfl, rfl, H0⟩
        case round =>
          clear H0 HT z0 z1 f0 f1 x4 x1
          obtain ⟨m, th, rfl, rfl, hS⟩ := hrel
          have x4 := (cf_cell hS.out.1.e0).2.2.2.2.1
          rw [HA4.out] at x4
          obtain ⟨z0, z1, f0, f1⟩ := hS.out.1.r
          have hlim : C.l4.length ≤ 1000 := HL.out.l4
          by_cases h1 : (m : Int) < (C.l4.length : Int)
          · have e1 : decide ((m : Int) < (C.l4.length : Int)) = true := decide_eq_true h1
            have H1 := Aside0.mk h1
            have h00 : (0 : Int) ≤ (m : Int) := by omega
            obtain ⟨ad, eA, y0⟩ := Kd.at_int (HC.out.below hS.out.1.b).r4 (m : Int) h00 h1
            obtain rfl : A4 = some ad := HA4.out.symm.trans eA
            rw [Int.toNat_natCast] at y0
            obtain ⟨el, hel⟩ : ∃ x, rd C.l4 (m : Int) = x := ⟨_, rfl⟩
            rw [hel] at y0
            have HEL := Aside0.mk hel
            clear hel
            obtain ⟨b1, hb1⟩ : ∃ b, isTB C el = b := ⟨_, rfl⟩
            have HB := Aside0.mk hb1
            clear hb1
            go_upto_region 9 with fail
            cases b1 with
            | false =>
              refine wp_region_held_drew (S := fun w' => Below wr.heap.size wr w') (by kernel_rfl) (pw_below_drewN (Below.refl _ _) 1) (fun hHeld => ?_)
              generalize wr.drew = wd at hHeld ⊢
              refine tk (i := 0) (v := _) 23 rfl (yields_blk (by rfl) 28 (.tmp 1) rfl (w.heap.size) _ 28 rfl _ (fun w' hW => obj_below hW hS.out.1.e0) Tryd.underlying28 rfl (by kernel_rfl)) hHeld ?_
              try simp only [putL, putN, List.set]
              refine tk (i := 1) (v := _) 24 rfl (Or.inl ⟨by rfl, fun w' hW => by have hq0 := pw_cell_below hW x4; have hq1 := pw_cell_below hW y0; go_simp; try (first | with_reducible rfl | rfl)⟩) hHeld ?_
              try simp only [putL, putN, List.set]
              refine tk (i := 3) (v := _) 26 rfl (Or.inl ⟨by rfl, fun w' hW => by have hq0 := pw_cell_below hW x4; have hq1 := pw_cell_below hW y0; go_simp; try (first | with_reducible rfl | rfl)⟩) hHeld ?_
              try simp only [putL, putN, List.set]
              refine tk (i := 2) (v := _) 25 rfl (Or.inl ⟨by rfl, fun w' hW => by have hq0 := pw_cell_below hW x4; have hq1 := pw_cell_below hW y0; go_simp; try (first | with_reducible rfl | rfl)⟩) hHeld ?_
              try simp only [putL, putN, List.set]
              refine tk (i := 4) (v := _) 27 rfl (Or.inl ⟨by rfl, fun w' hW => by have hq0 := pw_cell_below hW x4; have hq1 := pw_cell_below hW y0; go_simp; try (first | with_reducible rfl | rfl)⟩) hHeld ?_
              try simp only [putL, putN, List.set]
              refine tk (i := 5) (v := _) 28 rfl (Or.inl ⟨by rfl, fun w' hW => by have hq0 := pw_cell_below hW x4; have hq1 := pw_cell_below hW y0; go_simp; try (first | with_reducible rfl | rfl)⟩) hHeld ?_
              try simp only [putL, putN, List.set]
              have N0 := Aside0.mk hHeld
              refine wpAnyH_ready (rs := [6]) (by kernel_rfl) (by simp) ?_
              refine AllReadyH.cons rfl (fun K hK => ?_) AllReadyH.nil
              go_simp
              go_wp2_with (first | (go_at_call 47; refine (ten_calls C el _).mono ?_; rintro e wa ⟨rfl, hb⟩; rw [HB.out]; have N1 := Aside0.mk (below_step N0.out hb); clear hb))
              clear hHeld
              refine hK.out _ _ N1.out (fun hHeld => ?_)
              clear hK K
              try simp only [putL, putN, List.set]
              refine tk (i := 7) (v := _) 30 rfl (Or.inl ⟨by rfl, fun w' hW => by have hq0 := pw_cell_below hW x4; have hq1 := pw_cell_below hW y0; go_simp; try (first | with_reducible rfl | rfl)⟩) hHeld ?_
              try simp only [putL, putN, List.set]
              refine wpAnyH_done (by kernel_rfl) ?_ _
              clear hHeld
              have HT2 := Aside0.mk (hS.out.1.below N1.out)
              obtain ⟨u0, u1, s0, s1⟩ := HT2.out.r
              go_wp2_with fail
              have hbad : ¬ okFr C m = true := by unfold okFr; rw [HEL.out, HB.out]; decide
              have eq := HE.out
              rw [scan_hit (i := m) (by rw [if_neg hbad]; decide) _ 0 (Nat.zero_le _) (by have := H1.out; omega) (fun j _ hj => if_pos (hS.out.2.2.1 j hj)), if_neg hbad] at eq
              simp only [fraG, Prod.mk.injEq] at eq
              obtain ⟨rfl, rfl⟩ := eq
              obtain ⟨g0, g1, g2⟩ := HT2.out.fin (m : Int) 47
              generalize ((wa.setCell ⟨w.heap.size + 1, 0, none⟩ (.int .i64 (m : Int))).setCell ⟨w.heap.size + 1, 1, none⟩ (.int .i64 47)) = w3 at g0 g1 g2 ⊢
              exact bodyPost_ret (v := .agg #[.int .i64 (m : Int), .int .i64 47]) (by simp [results, Tryd.results41, go_sem, g1, g2]) rfl ⟨rfl, g0⟩
            | true =>
              have hel0 : 0 ≤ el ∧ el < 64 := by have := HB.out; unfold isTB at this; have := of_decide_eq_true this; have := HL16.out; omega
              obtain ⟨hel1, hel2⟩ := hel0
              refine wp_region_held_drew (S := fun w' => Below wr.heap.size wr w') (by kernel_rfl) (pw_below_drewN (Below.refl _ _) 1) (fun hHeld => ?_)
              generalize wr.drew = wd at hHeld ⊢
              refine tk (i := 0) (v := _) 23 rfl (yields_blk (by rfl) 28 (.tmp 1) rfl (w.heap.size) _ 28 rfl _ (fun w' hW => obj_below hW hS.out.1.e0) Tryd.underlying28 rfl (by kernel_rfl)) hHeld ?_
              try simp only [putL, putN, List.set]
              refine tk (i := 1) (v := _) 24 rfl (Or.inl ⟨by rfl, fun w' hW => by have hq0 := pw_cell_below hW x4; have hq1 := pw_cell_below hW y0; go_simp; try (first | with_reducible rfl | rfl)⟩) hHeld ?_
              try simp only [putL, putN, List.set]
              refine tk (i := 3) (v := _) 26 rfl (Or.inl ⟨by rfl, fun w' hW => by have hq0 := pw_cell_below hW x4; have hq1 := pw_cell_below hW y0; go_simp; try (first | with_reducible rfl | rfl)⟩) hHeld ?_
              try simp only [putL, putN, List.set]
              refine tk (i := 2) (v := _) 25 rfl (Or.inl ⟨by rfl, fun w' hW => by have hq0 := pw_cell_below hW x4; have hq1 := pw_cell_below hW y0; go_simp; try (first | with_reducible rfl | rfl)⟩) hHeld ?_
              try simp only [putL, putN, List.set]
              refine tk (i := 4) (v := _) 27 rfl (Or.inl ⟨by rfl, fun w' hW => by have hq0 := pw_cell_below hW x4; have hq1 := pw_cell_below hW y0; go_simp; try (first | with_reducible rfl | rfl)⟩) hHeld ?_
              try simp only [putL, putN, List.set]
              refine tk (i := 5) (v := _) 28 rfl (Or.inl ⟨by rfl, fun w' hW => by have hq0 := pw_cell_below hW x4; have hq1 := pw_cell_below hW y0; go_simp; try (first | with_reducible rfl | rfl)⟩) hHeld ?_
              try simp only [putL, putN, List.set]
              have N0 := Aside0.mk hHeld
              refine wpAnyH_ready (rs := [6]) (by kernel_rfl) (by simp) ?_
              refine AllReadyH.cons rfl (fun K hK => ?_) AllReadyH.nil
              go_simp
              go_wp2_with (first | (go_at_call 47; refine (ten_calls C el _).mono ?_; rintro e wa ⟨rfl, hb⟩; rw [HB.out]; have N1 := Aside0.mk (below_step N0.out hb); clear hb))
              clear hHeld
              refine hK.out _ _ N1.out (fun hHeld => ?_)
              clear hK K
              try simp only [putL, putN, List.set]
              refine tk (i := 7) (v := _) 30 rfl (Or.inl ⟨by rfl, fun w' hW => by have hq0 := pw_cell_below hW x4; have hq1 := pw_cell_below hW y0; go_simp; try (first | with_reducible rfl | rfl)⟩) hHeld ?_
              try simp only [putL, putN, List.set]
              refine wpAnyH_done (by kernel_rfl) ?_ _
              clear hHeld
              have HT2 := Aside0.mk (hS.out.1.below N1.out)
              have x4' := pw_cell_below N1.out x4
              have y0' := pw_cell_below N1.out y0
              go_wp2_with fail
              go_roundw
              case rel =>
                refine ⟨m + 1, _, by go_num, rfl, ⟨HT2.out, by have := H1.out; omega, fun j hj => ?_, ?_⟩⟩
                · by_cases e : j = m
                  · subst e; unfold okFr; rw [HEL.out, HB.out]
                  · exact hS.out.2.2.1 j (by omega)
                · rw [take_rd (by have := H1.out; omega), HEL.out, shl_one hel1 hel2]
                  exact bits_snoc hS.out.2.2.2 hel1 hel2
              case measure => simp [intOf]; have := H1.out; omega
          · have e1 : decide ((m : Int) < (C.l4.length : Int)) = false := decide_eq_false h1
            have hm : m = C.l4.length := by have := hS.out.2.1; omega
            have HM := Aside0.mk hm
            clear hm
            have hbits : Bits th C.l4 := by have := hS.out.2.2.2; rw [HM.out, List.take_length] at this; exact this
            have HTH := Aside0.mk hbits
            clear hbits
            have eq := HE.out
            rw [scan_none _ 0 (fun j _ hj => if_pos (hS.out.2.2.1 j (by have := HM.out; omega)))] at eq
            have HE2 : Aside0 ((qn, qe) = toldOf (scan (fun t => if inFr C t = true then 0 else 47) 0 C.l1.length)) := ⟨eq⟩
            clear eq
            have J0 : Aside0 (FraJ C w 0 wr) := ⟨⟨hS.out.1, Nat.zero_le _, fun j hj => absurd hj (by omega)⟩⟩
            go_wp2_with fail
            go_loopw [5] (fun i wr => ∃ k : Nat, i = .int .i64 (k : Int) ∧ Aside0 (FraJ C w k wr)) (fun i _ => C.l1.length - (intOf i).toNat)
            case atStart => exact ⟨0, rfl, J0⟩
            case round =>
              clear J0 x4 z0 z1 f0 f1
              obtain ⟨k, rfl, hJ⟩ := hrel
              have x1 := (cf_cell hJ.out.1.e0).2.1
              rw [HA1.out] at x1
              obtain ⟨z0, z1, f0, f1⟩ := hJ.out.1.r
              have hlim1 : C.l1.length ≤ 16 := HL16.out
              by_cases h2 : (k : Int) < (C.l1.length : Int)
              · have e2 : decide ((k : Int) < (C.l1.length : Int)) = true := decide_eq_true h2
                have H2 := Aside0.mk h2
                have HH := Aside0.mk (R01Has_eq HTH.out.1 (k : Int) 66 (by decide))
                obtain ⟨b1, hb1⟩ : ∃ b, hasBit th (k : Int) = b := ⟨_, rfl⟩
                have HB := Aside0.mk hb1
                have HIN : Aside0 (inFr C k = b1) := ⟨by rw [← HB.out, HTH.out.2 k (by omega)]; rfl⟩
                clear hb1
                cases b1 with
                | false =>
                  go_wp2_with (go_at_call 66; refine (rampartref01_Has.calls 66 th (k : Int) (hasBit th (k : Int)) _ HH.out).mono ?_; rintro e wa ⟨rfl, hd⟩; rw [HB.out]; have HT2 := Aside0.mk (hJ.out.1.below (Drawn0.below hd)); have ⟨u0, u1, s0, s1⟩ := HT2.out.r; clear hd)
                  have eq := HE2.out.trans (told_hit (i := k) (by rw [if_neg (by rw [HIN.out]; decide)]; decide) (by have := H2.out; omega) (fun j hj => if_pos (hJ.out.2.2 j hj)))
                  rw [if_neg (by rw [HIN.out]; decide)] at eq
                  simp only [Prod.mk.injEq] at eq
                  obtain ⟨rfl, rfl⟩ := eq
                  obtain ⟨g0, g1, g2⟩ := HT2.out.fin (k : Int) 47
                  generalize ((wa.setCell ⟨w.heap.size + 1, 0, none⟩ (.int .i64 (k : Int))).setCell ⟨w.heap.size + 1, 1, none⟩ (.int .i64 47)) = w3 at g0 g1 g2 ⊢
                  exact bodyPost_ret (v := .agg #[.int .i64 (k : Int), .int .i64 47]) (by simp [results, Tryd.results41, go_sem, g1, g2]) rfl ⟨rfl, g0⟩
                | true =>
                  go_wp2_with (go_at_call 66; refine (rampartref01_Has.calls 66 th (k : Int) (hasBit th (k : Int)) _ HH.out).mono ?_; rintro e wa ⟨rfl, hd⟩; rw [HB.out]; have HT2 := Aside0.mk (hJ.out.1.below (Drawn0.below hd)); clear hd)
                  go_roundw
                  case rel => exact ⟨k + 1, by go_num, ⟨HT2.out, by have := H2.out; omega, fun j hj => by
                    by_cases e : j = k
                    · subst e; exact HIN.out
                    · exact hJ.out.2.2 j (by omega)⟩⟩
                  case measure => simp [intOf]; have := H2.out; omega
              · have e2 : decide ((k : Int) < (C.l1.length : Int)) = false := decide_eq_false h2
                have H2 := Aside0.mk h2
                go_wp2_with fail
                have eq := HE2.out.trans (told_none (fun j hj => if_pos (hJ.out.2.2 j (by have := H2.out; omega))))
                simp only [Prod.mk.injEq] at eq
                obtain ⟨rfl, rfl⟩ := eq
                obtain ⟨g0, g1, g2⟩ := hJ.out.1.fin 0 0
                generalize ((wr.setCell ⟨w.heap.size + 1, 0, none⟩ (.int .i64 0)).setCell ⟨w.heap.size + 1, 1, none⟩ (.int .i64 0)) = w3 at g0 g1 g2 ⊢
                exact bodyPost_ret (v := .agg #[.int .i64 0, .int .i64 0]) (by simp [results, Tryd.results41, go_sem, g1, g2]) rfl ⟨rfl, g0⟩
  exact key _ rfl
end Go.Proofs.YtoliipbmcekciaaDoor.QDd
namespace Go.Proofs.YtoliipbmcekciaaDoor.QDd
open Go.RowKit Go.Proofs.YtoliipbmcekciaaDoorW.PrintWords Go.Proofs.YtoliipbmcekciaaDoorW.PrintLast Go.Proofs.YtoliipbmcekciaaDoorW.PrintMore
open Go.Proofs.YtoliipbmcekciaaDoor.QDc (tk putL putN obj_below take_at yields_blk load_blk load_any store_blk blk_setCells setAll far_setCells below_setCells)
set_option linter.unusedVariables false
set_option linter.unusedSimpArgs false
def anyTo (p : Nat → Bool) : Nat → Bool
  | 0 => false
  | n + 1 => anyTo p n || p n
theorem anyTo_hit {p : Nat → Bool} {k : Nat} (hk : p k = true) : ∀ n, k < n → anyTo p n = true
  | 0, h => absurd h (by omega)
  | n + 1, h => by
    unfold anyTo
    by_cases e : k = n
    · subst e; rw [hk, Bool.or_true]
    · rw [anyTo_hit hk n (by omega), Bool.true_or]
theorem anyTo_none {p : Nat → Bool} : ∀ n, (∀ k, k < n → p k = false) → anyTo p n = false
  | 0, _ => rfl
  | n + 1, h => by
    unfold anyTo
    rw [anyTo_none n (fun k hk => h k (by omega)), h n (by omega)]
    rfl
def TenOK (C : Cf) : Prop := C.l1.length ≤ 16 ∧ ∀ i, i < C.l1.length → okTen C i = true
theorem TenOK.lab {C : Cf} (h : TenOK C) {t : Int} (ht : isTB C t = true) : 0 ≤ (rd_T97 C.l1 t).f0 ∧ (rd_T97 C.l1 t).f0 < (C.l0.length : Int) := by
  unfold isTB at ht
  have ht := of_decide_eq_true ht
  obtain ⟨n, rfl⟩ := Int.eq_ofNat_of_zero_le ht.1
  have := h.2 n (by omega)
  unfold okTen at this
  rw [Bool.and_eq_true] at this
  have := this.1
  unfold isLB at this
  exact of_decide_eq_true this
def sndOf : Option (Nat × Int) → Int
  | none => 0
  | some (_, e) => e
def labT (C : Cf) (t : Int) : Int := (rd_T97 C.l1 t).f0
def lanT (x : S87) (i : Nat) : Int := (rd_T103 x.f1 (i : Int)).f0
def lanDup (x : S87) (i : Nat) : Bool := anyTo (fun k => decide (lanT x k = lanT x i)) i
def lanE (C : Cf) (x : S87) (i : Nat) : Int := if (isTB C (lanT x i) && winB (rd_T103 x.f1 (i : Int)).f1 1 64) = false then 42 else if lanDup x i = true then 42 else if hasBit (rd C.l0 (labT C (lanT x i))) x.f0 = false then 44 else 0
def lanF (C : Cf) (x : S87) : Int := sndOf (scan (lanE C x) 0 x.f1.length)
structure LB (C : Cf) (xv : Array Value) (w w2 : World) : Prop where
  b : Below w.heap.size w w2
  e0 : w2.heap[w.heap.size]? = some (.cells C.v 28 (0, 0))
  e1 : w2.heap[w.heap.size + 1]? = some (.cells xv 87 (0, 0))
theorem LB.start (C : Cf) (xv : Array Value) (w : World) : LB C xv w ((w.alloc (.cells C.v 28)).alloc (.cells xv 87)) :=
  ⟨((Below.refl _ w).alloc (Nat.le_refl _) _).alloc (by simp) _, (Below.heap_alloc _ _ _ (by simp)).trans (World.alloc_heap_new w _), by have := World.alloc_heap_new (w.alloc (.cells C.v 28)) (.cells xv 87); rwa [World.size_alloc] at this⟩
theorem LB.below {C : Cf} {xv : Array Value} {w w2 w3 : World} (h : LB C xv w w2) (hb : Below w2.heap.size w2 w3) : LB C xv w w3 := ⟨h.b.trans (hb.mono h.b.size), obj_below hb h.e0, obj_below hb h.e1⟩
theorem ch_cell {u v z : Value} {w : World} {g : Nat} (h : w.heap[g]? = some (.cells #[u, v, z] 87 (0, 0))) : w.cell? ⟨g, 0, none⟩ = some u ∧ w.cell? ⟨g, 1, none⟩ = some v ∧ w.cell? ⟨g, 2, none⟩ = some z := by
  refine ⟨?_, ?_, ?_⟩ <;> simp [World.cell?, h]
theorem snd_hit {f : Nat → Int} {i n : Nat} (hi : f i ≠ 0) (hn : i < n) (hj : ∀ j, j < i → f j = 0) : sndOf (scan f 0 n) = f i := by rw [scan_hit hi n 0 (Nat.zero_le _) (by omega) (fun j _ h => hj j h)]; rfl
theorem snd_none {f : Nat → Int} {n : Nat} (hj : ∀ j, j < n → f j = 0) : sndOf (scan f 0 n) = 0 := by rw [scan_none n 0 (fun j _ h => hj j (by omega))]; rfl
def LanI (C : Cf) (x : S87) (xv : Array Value) (w : World) (m : Nat) (wr : World) : Prop := LB C xv w wr ∧ m ≤ x.f1.length ∧ ∀ j, j < m → lanE C x j = 0
def LanJ (x : S87) (wg : World) (m k : Nat) (wr : World) : Prop := Below wg.heap.size wg wr ∧ k ≤ m ∧ ∀ j, j < k → decide (lanT x j = lanT x m) = false
set_option maxRecDepth 100000 in
set_option maxHeartbeats 2000000 in
theorem lanes_calls (C : Cf) (x : S87) (B1 B2 : Option Addr) (b1 b2 : Nat) (w : World) (hC : C.At w) (hL : C.Lim) (hT : TenOK C) (hx1 : x.f1.length ≤ 1000) (hr1 : Kd.C k103 w B1 x.f1.length x.f1) : Calls Tryd.prog 69 #[.agg C.v, .agg #[.int .i64 x.f0, .slice B1 x.f1.length b1, .slice B2 x.f2.length b2]] w fun e w' => e = .returned (.int .i64 (lanF C x)) ∧ Below w.heap.size w w' := by
  have HC := Aside0.mk hC
  have HL := Aside0.mk hL
  have HT := Aside0.mk hT
  have HX := Aside0.mk (And.intro hx1 hr1)
  clear hC hL hT hx1 hr1
  have key : ∀ q : Int, lanF C x = q → Calls Tryd.prog 69 #[.agg C.v, .agg #[.int .i64 x.f0, .slice B1 x.f1.length b1, .slice B2 x.f2.length b2]] w fun e w' => e = .returned (.int .i64 q) ∧ Below w.heap.size w w' := by
    intro q hq
    have HQ := Aside0.mk hq
    clear hq
    go_enter Tryd.func69, Tryd.ntmps69
    go_upto_region 1 with fail
    have H0 : Aside0 (LanI C x #[.int .i64 x.f0, .slice B1 x.f1.length b1, .slice B2 x.f2.length b2] w 0 ((w.alloc (.cells C.v 28)).alloc (.cells #[.int .i64 x.f0, .slice B1 x.f1.length b1, .slice B2 x.f2.length b2] 87))) := ⟨⟨LB.start C #[.int .i64 x.f0, .slice B1 x.f1.length b1, .slice B2 x.f2.length b2] w, Nat.zero_le _, fun j hj => absurd hj (by omega)⟩⟩
    generalize ((w.alloc (.cells C.v 28)).alloc (.cells #[.int .i64 x.f0, .slice B1 x.f1.length b1, .slice B2 x.f2.length b2] 87)) = w2 at H0 ⊢
    obtain ⟨A1, hA1⟩ : ∃ A, C.A1 = A := ⟨_, rfl⟩
    have HA1 := Aside0.mk hA1
    clear hA1
    go_wp2_with fail
    go_loopw [5] (fun i wr => ∃ m : Nat, i = .int .i64 (m : Int) ∧ Aside0 (LanI C x #[.int .i64 x.f0, .slice B1 x.f1.length b1, .slice B2 x.f2.length b2] w m wr)) (fun i _ => x.f1.length - (intOf i).toNat)
    case atStart => exact ⟨0, rfl, H0⟩
    case round =>
      clear H0
      obtain ⟨m, rfl, hS⟩ := hrel
      have c1 := (ch_cell hS.out.1.e1).2.1
      have hlim : x.f1.length ≤ 1000 := HX.out.1
      by_cases h1 : (m : Int) < (x.f1.length : Int)
      · have e1 : decide ((m : Int) < (x.f1.length : Int)) = true := decide_eq_true h1
        have H1 := Aside0.mk h1
        have h00 : (0 : Int) ≤ (m : Int) := by omega
        obtain ⟨ad, eB, v0, v1, v2⟩ := at_T103 (Kd.C_below HX.out.2 hS.out.1.b) (m : Int) h00 h1
        subst eB
        rw [Int.toNat_natCast] at v0 v1 v2
        obtain ⟨lx, hlx⟩ : ∃ y, rd_T103 x.f1 (m : Int) = y := ⟨_, rfl⟩
        have HLX := Aside0.mk hlx
        have HLT : Aside0 (lanT x m = lx.f0) := ⟨by unfold lanT; rw [hlx]⟩
        rw [hlx] at v0 v1 v2
        clear hlx
        obtain ⟨p1, hp1⟩ : ∃ b, isTB C lx.f0 = b := ⟨_, rfl⟩
        obtain ⟨p2, hp2⟩ : ∃ b, winB lx.f1 1 64 = b := ⟨_, rfl⟩
        have HB := Aside0.mk (And.intro hp1 hp2)
        clear hp1 hp2
        have HE : Aside0 (lanE C x m = if (p1 && p2) = false then 42 else if lanDup x m = true then 42 else if hasBit (rd C.l0 (labT C lx.f0)) x.f0 = false then 44 else 0) := ⟨by unfold lanE; rw [HLX.out, HLT.out, HB.out.1, HB.out.2]⟩
        go_upto_region 5 with fail
        have BG : Aside0 (Below wr.heap.size wr (wr.alloc (.cells #[.int .i64 lx.f0, .int .i64 lx.f1, .bool lx.f2] 103))) := ⟨(Below.refl _ _).alloc (Nat.le_refl _) _⟩
        have EG : Aside0 ((wr.alloc (.cells #[.int .i64 lx.f0, .int .i64 lx.f1, .bool lx.f2] 103)).heap[wr.heap.size]? = some (.cells #[.int .i64 lx.f0, .int .i64 lx.f1, .bool lx.f2] 103 (0, 0))) := ⟨World.alloc_heap_new _ _⟩
        generalize wr.alloc (.cells #[.int .i64 lx.f0, .int .i64 lx.f1, .bool lx.f2] 103) = wk at BG EG ⊢
        have HG := Aside0.mk (hS.out.1.below BG.out)
        have g0 : wk.cell? ⟨wr.heap.size, 0, none⟩ = some (.int .i64 lx.f0) := by simp [World.cell?, EG.out]
        have g1 : wk.cell? ⟨wr.heap.size, 1, none⟩ = some (.int .i64 lx.f1) := by simp [World.cell?, EG.out]
        cases p1 with
        | false =>
          go_wp2_with (first | ((with_reducible refine gate_ (.load 28 (.tmp 2)) rfl ?_); (try (refine gate_guard (by rfl) ?_; dsimp only)); refine load_blk rfl 28 (.tmp 2) rfl w.heap.size _ 28 rfl _ HG.out.e0 Tryd.underlying28 rfl (by kernel_rfl) ?_) | (go_at_call 47; (with_reducible refine (ten_calls C lx.f0 _).mono ?_); rintro e wa ⟨rfl, hb⟩; rw [HB.out.1]; have N1 := Aside0.mk hb; have g1a := pw_cell_below hb g1; clear hb))
          go_ret
          exact ⟨by rw [← HQ.out]; rw [show lanF C x = 42 from (snd_hit (f := lanE C x) (i := m) (by rw [HE.out, if_pos (by rfl)]; decide) (by have := H1.out; omega) hS.out.2.2).trans HE.out]; rfl, HG.out.b.trans (N1.out.mono HG.out.b.size)⟩
        | true =>
          cases p2 with
          | false =>
            go_wp2_with (first | ((with_reducible refine gate_ (.load 28 (.tmp 2)) rfl ?_); (try (refine gate_guard (by rfl) ?_; dsimp only)); refine load_blk rfl 28 (.tmp 2) rfl w.heap.size _ 28 rfl _ HG.out.e0 Tryd.underlying28 rfl (by kernel_rfl) ?_) | (go_at_call 47; (with_reducible refine (ten_calls C lx.f0 _).mono ?_); rintro e wa ⟨rfl, hb⟩; rw [HB.out.1]; have N1 := Aside0.mk hb; have g1a := pw_cell_below hb g1; clear hb) | (go_at_call 68; refine (win_calls _ _ _ _).mono ?_; rintro e wb ⟨rfl, rfl⟩; rw [HB.out.2]))
            go_ret
            exact ⟨by rw [← HQ.out]; rw [show lanF C x = 42 from (snd_hit (f := lanE C x) (i := m) (by rw [HE.out, if_pos (by rfl)]; decide) (by have := H1.out; omega) hS.out.2.2).trans HE.out]; rfl, HG.out.b.trans (N1.out.mono HG.out.b.size)⟩
          | true =>
            go_upto_region 7 with (first | ((with_reducible refine gate_ (.load 28 (.tmp 2)) rfl ?_); (try (refine gate_guard (by rfl) ?_; dsimp only)); refine load_blk rfl 28 (.tmp 2) rfl w.heap.size _ 28 rfl _ HG.out.e0 Tryd.underlying28 rfl (by kernel_rfl) ?_) | (go_at_call 47; (with_reducible refine (ten_calls C lx.f0 _).mono ?_); rintro e wa ⟨rfl, hb⟩; rw [HB.out.1]; have N1 := Aside0.mk hb; have g1a := pw_cell_below hb g1; clear hb) | (go_at_call 68; refine (win_calls _ _ _ _).mono ?_; rintro e wb ⟨rfl, rfl⟩; rw [HB.out.2]))
            have HA := Aside0.mk (HG.out.below N1.out)
            have HG0 := Aside0.mk (pw_cell_below N1.out g0)
            have HDUP : Aside0 (lanDup x m = true → lanE C x m = 42) := ⟨fun h => by rw [HE.out, if_neg (by decide), if_pos h]⟩
            have HFL : Aside0 (lanDup x m = false → (rd_T97 C.l1 lx.f0).f0 = labT C lx.f0 → True) := ⟨fun _ _ => trivial⟩
            clear HFL
            have HFL : Aside0 (∀ {lb : Int}, lanDup x m = false → (rd_T97 C.l1 lx.f0).f0 = lb → hasBit (rd C.l0 lb) x.f0 = false → lanE C x m = 44) := ⟨fun h1 h2 h3 => by rw [HE.out, if_neg (by decide), h1, if_neg (by decide), show labT C lx.f0 = _ from h2, h3, if_pos rfl]⟩
            have HOK : Aside0 (∀ {lb : Int}, lanDup x m = false → (rd_T97 C.l1 lx.f0).f0 = lb → hasBit (rd C.l0 lb) x.f0 = true → lanE C x m = 0) := ⟨fun h1 h2 h3 => by rw [HE.out, if_neg (by decide), h1, if_neg (by decide), show labT C lx.f0 = _ from h2, h3, if_neg (by decide)]⟩
            have J0 : Aside0 (LanJ x wa m 0 wa) := ⟨⟨Below.refl _ _, Nat.zero_le _, fun j hj => absurd hj (by omega)⟩⟩
            clear g0 g1 g1a c1 v0 v1 v2
            generalize hwg : wa = wg at HA HG0 J0 ⊢
            clear hwg
            go_wp2_with fail
            go_loopw [7] (fun k wj => ∃ j : Nat, k = .int .i64 (j : Int) ∧ Aside0 (LanJ x wg m j wj)) (fun k _ => m - (intOf k).toNat)
            case atStart => exact ⟨0, rfl, J0⟩
            case round =>
              clear J0
              obtain ⟨k, rfl, hJ⟩ := hrel
              have HP : Aside0 (LB C #[.int .i64 x.f0, .slice (some ad) x.f1.length b1, .slice B2 x.f2.length b2] w wr ∧ Below wg.heap.size wg wr) := ⟨⟨HA.out.below hJ.out.1, hJ.out.1⟩⟩
              have c1 := (ch_cell HP.out.1.e1).2.1
              have c0 := (ch_cell HP.out.1.e1).1
              have g0 := pw_cell_below hJ.out.1 HG0.out
              have hmk : x.f1.length ≤ 1000 := HX.out.1
              by_cases h2 : (k : Int) < (m : Int)
              · have e2 : decide ((k : Int) < (m : Int)) = true := decide_eq_true h2
                have H2 := Aside0.mk h2
                have h20 : (0 : Int) ≤ (k : Int) := by omega
                have h21 : (k : Int) < (x.f1.length : Int) := by have := H1.out; omega
                obtain ⟨ad9, eB9, v0, v1, v2⟩ := at_T103 (Kd.C_below HX.out.2 HP.out.1.b) (k : Int) h20 h21
                cases eB9
                rw [Int.toNat_natCast] at v0 v1 v2
                obtain ⟨kt, hkt⟩ : ∃ t, (rd_T103 x.f1 (k : Int)).f0 = t := ⟨_, rfl⟩
                have HKT : Aside0 (lanT x k = kt) := ⟨hkt⟩
                rw [hkt] at v0
                clear hkt v1 v2
                by_cases h3 : kt = lx.f0
                · have d3 : (kt == lx.f0) = true := by simpa using h3
                  have d3' : decide (kt = lx.f0) = true := decide_eq_true h3
                  have H3 := Aside0.mk h3
                  clear h3
                  go_wp2_with fail
                  go_quiet (fail)
                  go_wp2_with fail
                  go_ret
                  exact ⟨by rw [← HQ.out]; rw [show lanF C x = 42 from (snd_hit (f := lanE C x) (i := m) (by rw [HDUP.out (anyTo_hit (k := k) (by rw [HKT.out, HLT.out, H3.out]; exact decide_eq_true rfl) m (by have := H2.out; omega))]; decide) (by have := H1.out; omega) hS.out.2.2).trans (HDUP.out (anyTo_hit (k := k) (by rw [HKT.out, HLT.out, H3.out]; exact decide_eq_true rfl) m (by have := H2.out; omega)))]; rfl, pw_below_drewN HP.out.1.b _⟩
                · have d3 : (kt == lx.f0) = false := by simpa using h3
                  have d3' : decide (kt = lx.f0) = false := decide_eq_false h3
                  have H3 := Aside0.mk h3
                  clear h3
                  go_wp2_with fail
                  go_quiet (fail)
                  go_wp2_with fail
                  go_roundw
                  case rel => exact ⟨k + 1, by go_num, ⟨pw_below_drewN hJ.out.1 _, by have := H2.out; omega, fun j hj => by
                    by_cases e : j = k
                    · subst e; rw [HKT.out, HLT.out]; exact decide_eq_false H3.out
                    · exact hJ.out.2.2 j (by omega)⟩⟩
                  case measure => simp [intOf]; have := H2.out; omega
              · have e2 : decide ((k : Int) < (m : Int)) = false := decide_eq_false h2
                have H2 := Aside0.mk h2
                have hnd : lanDup x m = false := anyTo_none m (fun j hj => hJ.out.2.2 j (by have := hJ.out.2.1; omega))
                have HND := Aside0.mk hnd
                clear hnd
                have xc1 := (cf_cell HP.out.1.e0).2.1
                rw [HA1.out] at xc1
                have htr : 0 ≤ lx.f0 ∧ lx.f0 < (C.l1.length : Int) := by have := HB.out.1; unfold isTB at this; exact of_decide_eq_true this
                obtain ⟨ht0, ht1⟩ := htr
                obtain ⟨ad8, eA8, ty, ty1⟩ := at_T97 (HC.out.below HP.out.1.b).r1 lx.f0 ht0 ht1
                obtain rfl : A1 = some ad8 := HA1.out.symm.trans eA8
                have hlb := HT.out.lab HB.out.1
                obtain ⟨lb, hlbe⟩ : ∃ t, (rd_T97 C.l1 lx.f0).f0 = t := ⟨_, rfl⟩
                rw [hlbe] at ty hlb
                have HLB := Aside0.mk (And.intro hlbe hlb)
                clear hlbe hlb ty1 c1
                obtain ⟨fb, hfb⟩ : ∃ b, hasBit (rd C.l0 lb) x.f0 = b := ⟨_, rfl⟩
                have HFB := Aside0.mk hfb
                clear hfb
                go_upto_region 12 with fail
                cases fb with
                | false =>
                  refine wp_region_held_drew (S := fun w' => Below wr.heap.size wr w') (by kernel_rfl) (pw_below_drewN (Below.refl _ _) 1) (fun hHeld => ?_)
                  generalize wr.drew = wd at hHeld ⊢
                  refine tk (i := 0) (v := _) 45 rfl (yields_blk (by rfl) 28 (.tmp 2) rfl (w.heap.size) _ 28 rfl _ (fun w' hW => obj_below hW HP.out.1.e0) Tryd.underlying28 rfl (by kernel_rfl)) hHeld ?_
                  try simp only [putL, putN, List.set]
                  refine tk (i := 1) (v := _) 46 rfl (Or.inl ⟨by rfl, fun w' hW => by have hq0 := pw_cell_below hW xc1; have hq1 := pw_cell_below hW ty; have hq2 := pw_cell_below hW g0; have hq3 := pw_cell_below hW c0; go_simp; try (first | with_reducible rfl | rfl)⟩) hHeld ?_
                  try simp only [putL, putN, List.set]
                  refine tk (i := 3) (v := _) 48 rfl (Or.inl ⟨by rfl, fun w' hW => by have hq0 := pw_cell_below hW xc1; have hq1 := pw_cell_below hW ty; have hq2 := pw_cell_below hW g0; have hq3 := pw_cell_below hW c0; go_simp; try (first | with_reducible rfl | rfl)⟩) hHeld ?_
                  try simp only [putL, putN, List.set]
                  refine tk (i := 8) (v := _) 53 rfl (Or.inl ⟨by rfl, fun w' hW => by have hq0 := pw_cell_below hW xc1; have hq1 := pw_cell_below hW ty; have hq2 := pw_cell_below hW g0; have hq3 := pw_cell_below hW c0; go_simp; try (first | with_reducible rfl | rfl)⟩) hHeld ?_
                  try simp only [putL, putN, List.set]
                  refine tk (i := 2) (v := _) 47 rfl (Or.inl ⟨by rfl, fun w' hW => by have hq0 := pw_cell_below hW xc1; have hq1 := pw_cell_below hW ty; have hq2 := pw_cell_below hW g0; have hq3 := pw_cell_below hW c0; go_simp; try (first | with_reducible rfl | rfl)⟩) hHeld ?_
                  try simp only [putL, putN, List.set]
                  refine tk (i := 4) (v := _) 49 rfl (Or.inl ⟨by rfl, fun w' hW => by have hq0 := pw_cell_below hW xc1; have hq1 := pw_cell_below hW ty; have hq2 := pw_cell_below hW g0; have hq3 := pw_cell_below hW c0; go_simp; try (first | with_reducible rfl | rfl)⟩) hHeld ?_
                  try simp only [putL, putN, List.set]
                  refine tk (i := 9) (v := _) 54 rfl (Or.inl ⟨by rfl, fun w' hW => by have hq0 := pw_cell_below hW xc1; have hq1 := pw_cell_below hW ty; have hq2 := pw_cell_below hW g0; have hq3 := pw_cell_below hW c0; go_simp; try (first | with_reducible rfl | rfl)⟩) hHeld ?_
                  try simp only [putL, putN, List.set]
                  refine tk (i := 5) (v := _) 50 rfl (Or.inl ⟨by rfl, fun w' hW => by have hq0 := pw_cell_below hW xc1; have hq1 := pw_cell_below hW ty; have hq2 := pw_cell_below hW g0; have hq3 := pw_cell_below hW c0; go_simp; try (first | with_reducible rfl | rfl)⟩) hHeld ?_
                  try simp only [putL, putN, List.set]
                  refine tk (i := 6) (v := _) 51 rfl (Or.inl ⟨by rfl, fun w' hW => by have hq0 := pw_cell_below hW xc1; have hq1 := pw_cell_below hW ty; have hq2 := pw_cell_below hW g0; have hq3 := pw_cell_below hW c0; go_simp; try (first | with_reducible rfl | rfl)⟩) hHeld ?_
                  try simp only [putL, putN, List.set]
                  refine tk (i := 7) (v := _) 52 rfl (Or.inl ⟨by rfl, fun w' hW => by have hq0 := pw_cell_below hW xc1; have hq1 := pw_cell_below hW ty; have hq2 := pw_cell_below hW g0; have hq3 := pw_cell_below hW c0; go_simp; try (first | with_reducible rfl | rfl)⟩) hHeld ?_
                  try simp only [putL, putN, List.set]
                  have N0 := Aside0.mk hHeld
                  refine wpAnyH_ready (rs := [10]) (by kernel_rfl) (by simp) ?_
                  refine AllReadyH.cons rfl (fun K hK => ?_) AllReadyH.nil
                  go_simp
                  go_wp2_with (first | (go_at_call 48; refine (flo_calls C lb x.f0 _ (HC.out.below (HP.out.1.b.trans (N0.out.mono HP.out.1.b.size))) HL.out HLB.out.2.1 HLB.out.2.2).mono ?_; rintro e wf ⟨rfl, hb⟩; rw [HFB.out]; have N2 := Aside0.mk (below_step N0.out hb); clear hb))
                  clear hHeld
                  refine hK.out _ _ N2.out (fun hHeld => ?_)
                  clear hK K
                  try simp only [putL, putN, List.set]
                  refine tk (i := 11) (v := _) 56 rfl (Or.inl ⟨by rfl, fun w' hW => by have hq0 := pw_cell_below hW xc1; have hq1 := pw_cell_below hW ty; have hq2 := pw_cell_below hW g0; have hq3 := pw_cell_below hW c0; go_simp; try (first | with_reducible rfl | rfl)⟩) hHeld ?_
                  try simp only [putL, putN, List.set]
                  refine wpAnyH_done (by kernel_rfl) ?_ _
                  clear hHeld
                  go_wp2_with fail
                  go_ret
                  exact ⟨by rw [← HQ.out]; rw [show lanF C x = 44 from (snd_hit (f := lanE C x) (i := m) (by rw [HFL.out HND.out HLB.out.1 HFB.out]; decide) (by have := H1.out; omega) hS.out.2.2).trans (HFL.out HND.out HLB.out.1 HFB.out)]; rfl, HP.out.1.b.trans (N2.out.mono HP.out.1.b.size)⟩
                | true =>
                  refine wp_region_held_drew (S := fun w' => Below wr.heap.size wr w') (by kernel_rfl) (pw_below_drewN (Below.refl _ _) 1) (fun hHeld => ?_)
                  generalize wr.drew = wd at hHeld ⊢
                  refine tk (i := 0) (v := _) 45 rfl (yields_blk (by rfl) 28 (.tmp 2) rfl (w.heap.size) _ 28 rfl _ (fun w' hW => obj_below hW HP.out.1.e0) Tryd.underlying28 rfl (by kernel_rfl)) hHeld ?_
                  try simp only [putL, putN, List.set]
                  refine tk (i := 1) (v := _) 46 rfl (Or.inl ⟨by rfl, fun w' hW => by have hq0 := pw_cell_below hW xc1; have hq1 := pw_cell_below hW ty; have hq2 := pw_cell_below hW g0; have hq3 := pw_cell_below hW c0; go_simp; try (first | with_reducible rfl | rfl)⟩) hHeld ?_
                  try simp only [putL, putN, List.set]
                  refine tk (i := 3) (v := _) 48 rfl (Or.inl ⟨by rfl, fun w' hW => by have hq0 := pw_cell_below hW xc1; have hq1 := pw_cell_below hW ty; have hq2 := pw_cell_below hW g0; have hq3 := pw_cell_below hW c0; go_simp; try (first | with_reducible rfl | rfl)⟩) hHeld ?_
                  try simp only [putL, putN, List.set]
                  refine tk (i := 8) (v := _) 53 rfl (Or.inl ⟨by rfl, fun w' hW => by have hq0 := pw_cell_below hW xc1; have hq1 := pw_cell_below hW ty; have hq2 := pw_cell_below hW g0; have hq3 := pw_cell_below hW c0; go_simp; try (first | with_reducible rfl | rfl)⟩) hHeld ?_
                  try simp only [putL, putN, List.set]
                  refine tk (i := 2) (v := _) 47 rfl (Or.inl ⟨by rfl, fun w' hW => by have hq0 := pw_cell_below hW xc1; have hq1 := pw_cell_below hW ty; have hq2 := pw_cell_below hW g0; have hq3 := pw_cell_below hW c0; go_simp; try (first | with_reducible rfl | rfl)⟩) hHeld ?_
                  try simp only [putL, putN, List.set]
                  refine tk (i := 4) (v := _) 49 rfl (Or.inl ⟨by rfl, fun w' hW => by have hq0 := pw_cell_below hW xc1; have hq1 := pw_cell_below hW ty; have hq2 := pw_cell_below hW g0; have hq3 := pw_cell_below hW c0; go_simp; try (first | with_reducible rfl | rfl)⟩) hHeld ?_
                  try simp only [putL, putN, List.set]
                  refine tk (i := 9) (v := _) 54 rfl (Or.inl ⟨by rfl, fun w' hW => by have hq0 := pw_cell_below hW xc1; have hq1 := pw_cell_below hW ty; have hq2 := pw_cell_below hW g0; have hq3 := pw_cell_below hW c0; go_simp; try (first | with_reducible rfl | rfl)⟩) hHeld ?_
                  try simp only [putL, putN, List.set]
                  refine tk (i := 5) (v := _) 50 rfl (Or.inl ⟨by rfl, fun w' hW => by have hq0 := pw_cell_below hW xc1; have hq1 := pw_cell_below hW ty; have hq2 := pw_cell_below hW g0; have hq3 := pw_cell_below hW c0; go_simp; try (first | with_reducible rfl | rfl)⟩) hHeld ?_
                  try simp only [putL, putN, List.set]
                  refine tk (i := 6) (v := _) 51 rfl (Or.inl ⟨by rfl, fun w' hW => by have hq0 := pw_cell_below hW xc1; have hq1 := pw_cell_below hW ty; have hq2 := pw_cell_below hW g0; have hq3 := pw_cell_below hW c0; go_simp; try (first | with_reducible rfl | rfl)⟩) hHeld ?_
                  try simp only [putL, putN, List.set]
                  refine tk (i := 7) (v := _) 52 rfl (Or.inl ⟨by rfl, fun w' hW => by have hq0 := pw_cell_below hW xc1; have hq1 := pw_cell_below hW ty; have hq2 := pw_cell_below hW g0; have hq3 := pw_cell_below hW c0; go_simp; try (first | with_reducible rfl | rfl)⟩) hHeld ?_
                  try simp only [putL, putN, List.set]
                  have N0 := Aside0.mk hHeld
                  refine wpAnyH_ready (rs := [10]) (by kernel_rfl) (by simp) ?_
                  refine AllReadyH.cons rfl (fun K hK => ?_) AllReadyH.nil
                  go_simp
                  go_wp2_with (first | (go_at_call 48; refine (flo_calls C lb x.f0 _ (HC.out.below (HP.out.1.b.trans (N0.out.mono HP.out.1.b.size))) HL.out HLB.out.2.1 HLB.out.2.2).mono ?_; rintro e wf ⟨rfl, hb⟩; rw [HFB.out]; have N2 := Aside0.mk (below_step N0.out hb); clear hb))
                  clear hHeld
                  refine hK.out _ _ N2.out (fun hHeld => ?_)
                  clear hK K
                  try simp only [putL, putN, List.set]
                  refine tk (i := 11) (v := _) 56 rfl (Or.inl ⟨by rfl, fun w' hW => by have hq0 := pw_cell_below hW xc1; have hq1 := pw_cell_below hW ty; have hq2 := pw_cell_below hW g0; have hq3 := pw_cell_below hW c0; go_simp; try (first | with_reducible rfl | rfl)⟩) hHeld ?_
                  try simp only [putL, putN, List.set]
                  refine wpAnyH_done (by kernel_rfl) ?_ _
                  clear hHeld
                  go_wp2_with fail
                  go_roundw
                  case rel => exact ⟨m + 1, by go_num, ⟨HP.out.1.below N2.out, by have := H1.out; omega, fun j hj => by
                    by_cases e : j = m
                    · subst e; exact HOK.out HND.out HLB.out.1 HFB.out
                    · exact hS.out.2.2 j (by omega)⟩⟩
                  case measure => simp [intOf]; have := H1.out; omega
      · have e1 : decide ((m : Int) < (x.f1.length : Int)) = false := decide_eq_false h1
        have H1 := Aside0.mk h1
        go_wp2_with fail
        go_ret
        exact ⟨by rw [← HQ.out]; rw [show lanF C x = 0 from snd_none (fun j hj => hS.out.2.2 j (by have := H1.out; omega))]; rfl, hS.out.1.b⟩
  exact key _ rfl
end Go.Proofs.YtoliipbmcekciaaDoor.QDd
namespace Go.Proofs.YtoliipbmcekciaaDoor.QDd
open Go.RowKit Go.Proofs.YtoliipbmcekciaaDoorW.PrintWords Go.Proofs.YtoliipbmcekciaaDoorW.PrintLast Go.Proofs.YtoliipbmcekciaaDoorW.PrintMore
open Go.Proofs.YtoliipbmcekciaaDoor.QDc (tk putL putN obj_below take_at yields_blk load_blk load_any store_blk blk_setCells setAll far_setCells below_setCells)
set_option linter.unusedVariables false
set_option linter.unusedSimpArgs false
def recT (x : S87) (i : Nat) : Int := (rd_T105 x.f2 (i : Int)).f0
def recDup (x : S87) (i : Nat) : Bool := anyTo (fun k => decide (recT x k = recT x i)) i
def recCr (C : Cf) (x : S87) (i k : Nat) : Bool := !(hasBit (rd C.l0 (labT C (recT x k))) (labT C (recT x i)) && hasBit (rd C.l0 (labT C (recT x i))) (labT C (recT x k)))
def recE (C : Cf) (x : S87) (i : Nat) : Int := if isTB C (recT x i) = false then 43 else if recDup x i = true then 43 else if hasBit (rd C.l0 x.f0) (labT C (recT x i)) = false then 44 else if anyTo (recCr C x i) i = true then 44 else 0
def recF (C : Cf) (x : S87) : Int := sndOf (scan (recE C x) 0 x.f2.length)
theorem recE_ten {C : Cf} {x : S87} {i : Nat} (h : recE C x i = 0) : isTB C (recT x i) = true := by
  unfold recE at h
  cases hb : isTB C (recT x i) with
  | true => rfl
  | false => rw [hb, if_pos rfl] at h; exact absurd h (by decide)
def RecI (C : Cf) (x : S87) (xv : Array Value) (w : World) (m : Nat) (wr : World) : Prop := LB C xv w wr ∧ m ≤ x.f2.length ∧ ∀ j, j < m → recE C x j = 0
def RecJ (x : S87) (wg : World) (m k : Nat) (wr : World) : Prop := Below wg.heap.size wg wr ∧ k ≤ m ∧ ∀ j, j < k → decide (recT x j = recT x m) = false
def RecK (C : Cf) (x : S87) (wg : World) (m k : Nat) (wr : World) : Prop := Below wg.heap.size wg wr ∧ k ≤ m ∧ ∀ j, j < k → recCr C x m j = false
set_option maxRecDepth 100000 in
set_option maxHeartbeats 2000000 in
theorem receivers_calls (C : Cf) (x : S87) (B1 B2 : Option Addr) (b1 b2 : Nat) (w : World) (hC : C.At w) (hL : C.Lim) (hT : TenOK C) (hx2 : x.f2.length ≤ 1000) (hlab : isLB C x.f0 = true) (hr2 : Kd.C k105 w B2 x.f2.length x.f2) : Calls Tryd.prog 70 #[.agg C.v, .agg #[.int .i64 x.f0, .slice B1 x.f1.length b1, .slice B2 x.f2.length b2]] w fun e w' => e = .returned (.int .i64 (recF C x)) ∧ Below w.heap.size w w' := by
  have HC := Aside0.mk hC
  have HL := Aside0.mk hL
  have HT := Aside0.mk hT
  have HX := Aside0.mk (And.intro hx2 hr2)
  have HXL : Aside0 (0 ≤ x.f0 ∧ x.f0 < (C.l0.length : Int)) := ⟨by unfold isLB at hlab; exact of_decide_eq_true hlab⟩
  clear hC hL hT hx2 hr2 hlab
  have key : ∀ q : Int, recF C x = q → Calls Tryd.prog 70 #[.agg C.v, .agg #[.int .i64 x.f0, .slice B1 x.f1.length b1, .slice B2 x.f2.length b2]] w fun e w' => e = .returned (.int .i64 q) ∧ Below w.heap.size w w' := by
    intro q hq
    have HQ := Aside0.mk hq
    clear hq
    go_enter Tryd.func70, Tryd.ntmps70
    go_upto_region 1 with fail
    have H0 : Aside0 (RecI C x #[.int .i64 x.f0, .slice B1 x.f1.length b1, .slice B2 x.f2.length b2] w 0 ((w.alloc (.cells C.v 28)).alloc (.cells #[.int .i64 x.f0, .slice B1 x.f1.length b1, .slice B2 x.f2.length b2] 87))) := ⟨⟨LB.start C #[.int .i64 x.f0, .slice B1 x.f1.length b1, .slice B2 x.f2.length b2] w, Nat.zero_le _, fun j hj => absurd hj (by omega)⟩⟩
    generalize ((w.alloc (.cells C.v 28)).alloc (.cells #[.int .i64 x.f0, .slice B1 x.f1.length b1, .slice B2 x.f2.length b2] 87)) = w2 at H0 ⊢
    obtain ⟨A1, hA1⟩ : ∃ A, C.A1 = A := ⟨_, rfl⟩
    have HA1 := Aside0.mk hA1
    clear hA1
    go_wp2_with fail
    go_loopw [5] (fun i wr => ∃ m : Nat, i = .int .i64 (m : Int) ∧ Aside0 (RecI C x #[.int .i64 x.f0, .slice B1 x.f1.length b1, .slice B2 x.f2.length b2] w m wr)) (fun i _ => x.f2.length - (intOf i).toNat)
    case atStart => exact ⟨0, rfl, H0⟩
    case round =>
      clear H0
      obtain ⟨m, rfl, hS⟩ := hrel
      have c2 := (ch_cell hS.out.1.e1).2.2
      have hlim : x.f2.length ≤ 1000 := HX.out.1
      by_cases h1 : (m : Int) < (x.f2.length : Int)
      · have e1 : decide ((m : Int) < (x.f2.length : Int)) = true := decide_eq_true h1
        have H1 := Aside0.mk h1
        have h00 : (0 : Int) ≤ (m : Int) := by omega
        obtain ⟨ad, eB, v0, v1⟩ := at_T105 (Kd.C_below HX.out.2 hS.out.1.b) (m : Int) h00 h1
        subst eB
        rw [Int.toNat_natCast] at v0 v1
        obtain ⟨rt, hrt⟩ : ∃ y, (rd_T105 x.f2 (m : Int)).f0 = y := ⟨_, rfl⟩
        have HRT : Aside0 (recT x m = rt) := ⟨hrt⟩
        rw [hrt] at v0
        clear hrt v1
        obtain ⟨p1, hp1⟩ : ∃ b, isTB C rt = b := ⟨_, rfl⟩
        have HB := Aside0.mk hp1
        clear hp1
        have HE : Aside0 (recE C x m = if p1 = false then 43 else if recDup x m = true then 43 else if hasBit (rd C.l0 x.f0) (labT C rt) = false then 44 else if anyTo (recCr C x m) m = true then 44 else 0) := ⟨by unfold recE; rw [HRT.out, HB.out]⟩
        cases p1 with
        | false =>
          go_wp2_with (first | ((with_reducible refine gate_ (.load 28 (.tmp 2)) rfl ?_); (try (refine gate_guard (by rfl) ?_; dsimp only)); refine load_blk rfl 28 (.tmp 2) rfl w.heap.size _ 28 rfl _ (hS.out.1.e0) Tryd.underlying28 rfl (by kernel_rfl) ?_) | (go_at_call 47; (with_reducible refine (ten_calls C rt _).mono ?_); rintro e wa ⟨rfl, hb⟩; rw [HB.out]; have N1 := Aside0.mk hb; clear hb))
          go_ret
          exact ⟨by rw [← HQ.out]; rw [show recF C x = 43 from (snd_hit (f := recE C x) (i := m) (by rw [HE.out.trans (if_pos (by trivial))]; decide) (by have := H1.out; omega) hS.out.2.2).trans (HE.out.trans (if_pos (by trivial)))]; rfl, hS.out.1.b.trans (N1.out.mono hS.out.1.b.size)⟩
        | true =>
          go_upto_region 7 with (first | ((with_reducible refine gate_ (.load 28 (.tmp 2)) rfl ?_); (try (refine gate_guard (by rfl) ?_; dsimp only)); refine load_blk rfl 28 (.tmp 2) rfl w.heap.size _ 28 rfl _ (hS.out.1.e0) Tryd.underlying28 rfl (by kernel_rfl) ?_) | (go_at_call 47; (with_reducible refine (ten_calls C rt _).mono ?_); rintro e wa ⟨rfl, hb⟩; rw [HB.out]; have N1 := Aside0.mk hb; clear hb))
          have HA := Aside0.mk (hS.out.1.below N1.out)
          have HDUP : Aside0 (recDup x m = true → recE C x m = 43) := ⟨fun h => by rw [HE.out, if_neg (by decide), if_pos h]⟩
          have HE2 : Aside0 (∀ {lb : Int}, recDup x m = false → labT C rt = lb → hasBit (rd C.l0 x.f0) lb = false → recE C x m = 44) := ⟨fun h1 h2 h3 => by rw [HE.out, if_neg (by decide), h1, if_neg (by decide), h2, h3, if_pos rfl]⟩
          have HE3 : Aside0 (∀ {lb : Int}, recDup x m = false → labT C rt = lb → hasBit (rd C.l0 x.f0) lb = true → anyTo (recCr C x m) m = true → recE C x m = 44) := ⟨fun h1 h2 h3 h4 => by rw [HE.out, if_neg (by decide), h1, if_neg (by decide), h2, h3, if_neg (by decide), if_pos h4]⟩
          have HE4 : Aside0 (∀ {lb : Int}, recDup x m = false → labT C rt = lb → hasBit (rd C.l0 x.f0) lb = true → anyTo (recCr C x m) m = false → recE C x m = 0) := ⟨fun h1 h2 h3 h4 => by rw [HE.out, if_neg (by decide), h1, if_neg (by decide), h2, h3, if_neg (by decide), h4, if_neg (by decide)]⟩
          have J0 : Aside0 (RecJ x wa m 0 wa) := ⟨⟨Below.refl _ _, Nat.zero_le _, fun j hj => absurd hj (by omega)⟩⟩
          clear c2 v0
          generalize hwg : wa = wg at HA J0 ⊢
          clear hwg
          go_wp2_with fail
          go_loopw [7] (fun k wj => ∃ j : Nat, k = .int .i64 (j : Int) ∧ Aside0 (RecJ x wg m j wj)) (fun k _ => m - (intOf k).toNat)
          case atStart => exact ⟨0, rfl, J0⟩
          case round =>
            clear J0
            obtain ⟨k, rfl, hJ⟩ := hrel
            have HP : Aside0 (LB C #[.int .i64 x.f0, .slice B1 x.f1.length b1, .slice (some ad) x.f2.length b2] w wr) := ⟨HA.out.below hJ.out.1⟩
            have c2 := (ch_cell HP.out.e1).2.2
            have c0 := (ch_cell HP.out.e1).1
            by_cases h2 : (k : Int) < (m : Int)
            · have e2 : decide ((k : Int) < (m : Int)) = true := decide_eq_true h2
              have H2 := Aside0.mk h2
              have h20 : (0 : Int) ≤ (k : Int) := by omega
              have h21 : (k : Int) < (x.f2.length : Int) := by have := H1.out; omega
              obtain ⟨ad9, eB9, v0, v1⟩ := at_T105 (Kd.C_below HX.out.2 HP.out.b) (k : Int) h20 h21
              cases eB9
              rw [Int.toNat_natCast] at v0 v1
              obtain ⟨kt, hkt⟩ : ∃ t, (rd_T105 x.f2 (k : Int)).f0 = t := ⟨_, rfl⟩
              have HKT : Aside0 (recT x k = kt) := ⟨hkt⟩
              rw [hkt] at v0
              clear hkt v1
              by_cases h3 : kt = rt
              · have d3 : (kt == rt) = true := by simpa using h3
                have d3' : decide (kt = rt) = true := decide_eq_true h3
                have H3 := Aside0.mk h3
                clear h3
                go_wp2_with fail
                go_ret
                exact ⟨by rw [← HQ.out]; rw [show recF C x = 43 from (snd_hit (f := recE C x) (i := m) (by rw [HDUP.out (anyTo_hit (k := k) (by rw [HKT.out, HRT.out, H3.out]; exact decide_eq_true rfl) m (by have := H2.out; omega))]; decide) (by have := H1.out; omega) hS.out.2.2).trans (HDUP.out (anyTo_hit (k := k) (by rw [HKT.out, HRT.out, H3.out]; exact decide_eq_true rfl) m (by have := H2.out; omega)))]; rfl, HP.out.b⟩
              · have d3 : (kt == rt) = false := by simpa using h3
                have d3' : decide (kt = rt) = false := decide_eq_false h3
                have H3 := Aside0.mk h3
                clear h3
                go_wp2_with fail
                go_roundw
                case rel => exact ⟨k + 1, by go_num, ⟨hJ.out.1, by have := H2.out; omega, fun j hj => by
                  by_cases e : j = k
                  · subst e; rw [HKT.out, HRT.out]; exact decide_eq_false H3.out
                  · exact hJ.out.2.2 j (by omega)⟩⟩
                case measure => simp [intOf]; have := H2.out; omega
            · have e2 : decide ((k : Int) < (m : Int)) = false := decide_eq_false h2
              have H2 := Aside0.mk h2
              have hnd : recDup x m = false := anyTo_none m (fun j hj => hJ.out.2.2 j (by have := hJ.out.2.1; omega))
              have HND := Aside0.mk hnd
              clear hnd
              have xc1 := (cf_cell HP.out.e0).2.1
              rw [HA1.out] at xc1
              have htr : 0 ≤ rt ∧ rt < (C.l1.length : Int) := by have := HB.out; unfold isTB at this; exact of_decide_eq_true this
              obtain ⟨ht0, ht1⟩ := htr
              obtain ⟨ad8, eA8, ty, ty1⟩ := at_T97 (HC.out.below HP.out.b).r1 rt ht0 ht1
              obtain rfl : A1 = some ad8 := HA1.out.symm.trans eA8
              have hlb := HT.out.lab HB.out
              obtain ⟨ow, how⟩ : ∃ t, (rd_T97 C.l1 rt).f0 = t := ⟨_, rfl⟩
              rw [how] at ty hlb
              have HOW : Aside0 (labT C rt = ow ∧ 0 ≤ ow ∧ ow < (C.l0.length : Int)) := ⟨⟨how, hlb⟩⟩
              clear how hlb ty1 c2
              obtain ⟨fb, hfb⟩ : ∃ b, hasBit (rd C.l0 x.f0) ow = b := ⟨_, rfl⟩
              have HFB := Aside0.mk hfb
              clear hfb
              cases fb with
              | false =>
                go_wp2_with (first | ((with_reducible refine gate_ (.load 28 (.tmp 2)) rfl ?_); (try (refine gate_guard (by rfl) ?_; dsimp only)); refine load_blk rfl 28 (.tmp 2) rfl w.heap.size _ 28 rfl _ (HP.out.e0) Tryd.underlying28 rfl (by kernel_rfl) ?_) | (go_at_call 48; (with_reducible refine (flo_calls C x.f0 ow _ (HC.out.below (HP.out.b)) HL.out HXL.out.1 HXL.out.2).mono ?_); rintro e wf ⟨rfl, hb⟩; rw [HFB.out]; have N3 := Aside0.mk hb; clear hb))
                go_ret
                exact ⟨by rw [← HQ.out]; rw [show recF C x = 44 from (snd_hit (f := recE C x) (i := m) (by rw [HE2.out HND.out HOW.out.1 HFB.out]; decide) (by have := H1.out; omega) hS.out.2.2).trans (HE2.out HND.out HOW.out.1 HFB.out)]; rfl, HP.out.b.trans (N3.out.mono HP.out.b.size)⟩
              | true =>
                go_upto_region 15 with (first | ((with_reducible refine gate_ (.load 28 (.tmp 2)) rfl ?_); (try (refine gate_guard (by rfl) ?_; dsimp only)); refine load_blk rfl 28 (.tmp 2) rfl w.heap.size _ 28 rfl _ (HP.out.e0) Tryd.underlying28 rfl (by kernel_rfl) ?_) | (go_at_call 48; (with_reducible refine (flo_calls C x.f0 ow _ (HC.out.below (HP.out.b)) HL.out HXL.out.1 HXL.out.2).mono ?_); rintro e wf ⟨rfl, hb⟩; rw [HFB.out]; have N3 := Aside0.mk hb; clear hb))
                have HF := Aside0.mk (HP.out.below N3.out)
                have HCX : Aside0 (anyTo (recCr C x m) m = true → recE C x m = 44) := ⟨fun h => HE3.out HND.out HOW.out.1 HFB.out h⟩
                have HOK : Aside0 (anyTo (recCr C x m) m = false → recE C x m = 0) := ⟨fun h => HE4.out HND.out HOW.out.1 HFB.out h⟩
                have K0 : Aside0 (RecK C x wf m 0 wf) := ⟨⟨Below.refl _ _, Nat.zero_le _, fun j hj => absurd hj (by omega)⟩⟩
                have z3 : True := trivial
                clear c0 ty xc1
                generalize hwg : wf = wg at HF K0 ⊢
                clear hwg
                go_wp2_with fail
                go_loopw [9] (fun k wj => ∃ j : Nat, k = .int .i64 (j : Int) ∧ Aside0 (RecK C x wg m j wj)) (fun k _ => m - (intOf k).toNat)
                case atStart => exact ⟨0, rfl, K0⟩
                case round =>
                  clear K0 z3
                  obtain ⟨k, rfl, hK⟩ := hrel
                  have HP : Aside0 (LB C #[.int .i64 x.f0, .slice B1 x.f1.length b1, .slice (some ad) x.f2.length b2] w wr) := ⟨HF.out.below hK.out.1⟩
                  have c2 := (ch_cell HP.out.e1).2.2
                  have xc1 := (cf_cell HP.out.e0).2.1
                  rw [HA1.out] at xc1
                  by_cases h3 : (k : Int) < (m : Int)
                  · have e3 : decide ((k : Int) < (m : Int)) = true := decide_eq_true h3
                    have H3 := Aside0.mk h3
                    have h30 : (0 : Int) ≤ (k : Int) := by omega
                    have h31 : (k : Int) < (x.f2.length : Int) := by have := H1.out; omega
                    obtain ⟨ad9, eB9, v0, v1⟩ := at_T105 (Kd.C_below HX.out.2 HP.out.b) (k : Int) h30 h31
                    cases eB9
                    rw [Int.toNat_natCast] at v0 v1
                    obtain ⟨kt, hkt⟩ : ∃ t, (rd_T105 x.f2 (k : Int)).f0 = t := ⟨_, rfl⟩
                    have HKT : Aside0 (recT x k = kt) := ⟨hkt⟩
                    rw [hkt] at v0
                    clear hkt v1
                    have hkb := recE_ten (hS.out.2.2 k (by have := H3.out; omega))
                    rw [HKT.out] at hkb
                    have hkl := HT.out.lab hkb
                    have htr : 0 ≤ kt ∧ kt < (C.l1.length : Int) := by unfold isTB at hkb; exact of_decide_eq_true hkb
                    obtain ⟨hk0, hk1⟩ := htr
                    obtain ⟨ad8, eA8, ty, ty1⟩ := at_T97 (HC.out.below HP.out.b).r1 kt hk0 hk1
                    cases HA1.out.symm.trans eA8
                    obtain ⟨ob, hob⟩ : ∃ t, (rd_T97 C.l1 kt).f0 = t := ⟨_, rfl⟩
                    rw [hob] at ty hkl
                    have HOB : Aside0 (labT C (recT x k) = ob ∧ 0 ≤ ob ∧ ob < (C.l0.length : Int)) := ⟨⟨by unfold labT; rw [HKT.out]; exact hob, hkl⟩⟩
                    clear hob hkl ty1 hkb
                    obtain ⟨f1, hf1⟩ : ∃ b, hasBit (rd C.l0 ob) ow = b := ⟨_, rfl⟩
                    obtain ⟨f2, hf2⟩ : ∃ b, hasBit (rd C.l0 ow) ob = b := ⟨_, rfl⟩
                    have HFF := Aside0.mk (And.intro hf1 hf2)
                    have HCR : Aside0 (recCr C x m k = !(f1 && f2)) := ⟨by unfold recCr; rw [HOB.out.1, HRT.out, HOW.out.1, hf1, hf2]⟩
                    clear hf1 hf2
                    go_upto_region 18 with fail
                    go_quiet (fail)
                    generalize hwq : wr.drewN _ = wq
                    have HQ2 : Aside0 (Below wr.heap.size wr wq) := ⟨hwq ▸ pw_below_drewN (Below.refl _ _) _⟩
                    clear hwq
                    have HPQ := Aside0.mk (HP.out.below HQ2.out)
                    cases f1 with
                    | false =>
                      go_wp2_with (first | ((with_reducible refine gate_ (.load 28 (.tmp 2)) rfl ?_); (try (refine gate_guard (by rfl) ?_; dsimp only)); refine load_blk rfl 28 (.tmp 2) rfl w.heap.size _ 28 rfl _ (HPQ.out.e0) Tryd.underlying28 rfl (by kernel_rfl) ?_) | (go_at_call 48; (with_reducible refine (flo_calls C ob ow _ (HC.out.below (HPQ.out.b)) HL.out HOB.out.2.1 HOB.out.2.2).mono ?_); rintro e wf ⟨rfl, hb⟩; rw [HFF.out.1]; have N4 := Aside0.mk hb; clear hb))
                      go_ret
                      exact ⟨by rw [← HQ.out]; rw [show recF C x = 44 from (snd_hit (f := recE C x) (i := m) (by rw [HCX.out (anyTo_hit (k := k) (by rw [HCR.out]; rfl) m (by have := H3.out; omega))]; decide) (by have := H1.out; omega) hS.out.2.2).trans (HCX.out (anyTo_hit (k := k) (by rw [HCR.out]; rfl) m (by have := H3.out; omega)))]; rfl, HPQ.out.b.trans (N4.out.mono HPQ.out.b.size)⟩
                    | true =>
                      cases f2 with
                      | false =>
                        go_wp2_with (first | ((with_reducible refine gate_ (.load 28 (.tmp 2)) rfl ?_); (try (refine gate_guard (by rfl) ?_; dsimp only)); refine load_blk rfl 28 (.tmp 2) rfl w.heap.size _ 28 rfl _ (by first | exact HPQ.out.e0 | exact (HPQ.out.below N4.out).e0) Tryd.underlying28 rfl (by kernel_rfl) ?_) | (go_at_call 48; (with_reducible refine (flo_calls C ob ow _ (HC.out.below (HPQ.out.b)) HL.out HOB.out.2.1 HOB.out.2.2).mono ?_); rintro e wf ⟨rfl, hb⟩; rw [HFF.out.1]; have N4 := Aside0.mk hb; clear hb) | (go_at_call 48; (with_reducible refine (flo_calls C ow ob _ (HC.out.below ((HPQ.out.below N4.out).b)) HL.out HOW.out.2.1 HOW.out.2.2).mono ?_); rintro e wh ⟨rfl, hb⟩; rw [HFF.out.2]; have N5 := Aside0.mk hb; clear hb))
                        go_ret
                        exact ⟨by rw [← HQ.out]; rw [show recF C x = 44 from (snd_hit (f := recE C x) (i := m) (by rw [HCX.out (anyTo_hit (k := k) (by rw [HCR.out]; rfl) m (by have := H3.out; omega))]; decide) (by have := H1.out; omega) hS.out.2.2).trans (HCX.out (anyTo_hit (k := k) (by rw [HCR.out]; rfl) m (by have := H3.out; omega)))]; rfl, (HPQ.out.below N4.out).b.trans (N5.out.mono (HPQ.out.below N4.out).b.size)⟩
                      | true =>
                        go_wp2_with (first | ((with_reducible refine gate_ (.load 28 (.tmp 2)) rfl ?_); (try (refine gate_guard (by rfl) ?_; dsimp only)); refine load_blk rfl 28 (.tmp 2) rfl w.heap.size _ 28 rfl _ (by first | exact HPQ.out.e0 | exact (HPQ.out.below N4.out).e0) Tryd.underlying28 rfl (by kernel_rfl) ?_) | (go_at_call 48; (with_reducible refine (flo_calls C ob ow _ (HC.out.below (HPQ.out.b)) HL.out HOB.out.2.1 HOB.out.2.2).mono ?_); rintro e wf ⟨rfl, hb⟩; rw [HFF.out.1]; have N4 := Aside0.mk hb; clear hb) | (go_at_call 48; (with_reducible refine (flo_calls C ow ob _ (HC.out.below ((HPQ.out.below N4.out).b)) HL.out HOW.out.2.1 HOW.out.2.2).mono ?_); rintro e wh ⟨rfl, hb⟩; rw [HFF.out.2]; have N5 := Aside0.mk hb; clear hb))
                        go_roundw
                        case rel => exact ⟨k + 1, by go_num, ⟨hK.out.1.trans ((HQ2.out.trans ((N4.out.trans (N5.out.mono N4.out.size)).mono HQ2.out.size)).mono hK.out.1.size), by have := H3.out; omega, fun j hj => by
                          by_cases e : j = k
                          · subst e; rw [HCR.out]; rfl
                          · exact hK.out.2.2 j (by omega)⟩⟩
                        case measure => simp [intOf]; have := H3.out; omega
                  · have e3 : decide ((k : Int) < (m : Int)) = false := decide_eq_false h3
                    have H3 := Aside0.mk h3
                    have hnx : anyTo (recCr C x m) m = false := anyTo_none m (fun j hj => hK.out.2.2 j (by have := hK.out.2.1; omega))
                    have HNX := Aside0.mk hnx
                    clear hnx
                    go_wp2_with fail
                    go_roundw
                    case rel => exact ⟨m + 1, by go_num, ⟨HP.out, by have := H1.out; omega, fun j hj => by
                      by_cases e : j = m
                      · subst e; exact HOK.out HNX.out
                      · exact hS.out.2.2 j (by omega)⟩⟩
                    case measure => simp [intOf]; have := H1.out; omega
      · have e1 : decide ((m : Int) < (x.f2.length : Int)) = false := decide_eq_false h1
        have H1 := Aside0.mk h1
        go_wp2_with fail
        go_ret
        exact ⟨by rw [← HQ.out]; rw [show recF C x = 0 from snd_none (fun j hj => hS.out.2.2 j (by have := H1.out; omega))]; rfl, hS.out.1.b⟩
  exact key _ rfl
end Go.Proofs.YtoliipbmcekciaaDoor.QDd
namespace Go.Proofs.YtoliipbmcekciaaDoor.QDd
open Go.RowKit Go.Proofs.YtoliipbmcekciaaDoorW.PrintWords Go.Proofs.YtoliipbmcekciaaDoorW.PrintLast Go.Proofs.YtoliipbmcekciaaDoorW.PrintMore
open Go.Proofs.YtoliipbmcekciaaDoor.QDc (tk putL putN obj_below take_at yields_blk load_blk load_any store_blk blk_setCells setAll far_setCells below_setCells)
set_option linter.unusedVariables false
set_option linter.unusedSimpArgs false
def chE (C : Cf) (i : Nat) : Int := if isLB C (rd_T87 C.l2 (i : Int)).f0 = false then 41 else if lanF C (rd_T87 C.l2 (i : Int)) = 0 then recF C (rd_T87 C.l2 (i : Int)) else lanF C (rd_T87 C.l2 (i : Int))
def chaF (C : Cf) : Int × Int := if C.l2.length > 32 then (0, 3) else toldOf (scan (chE C) 0 C.l2.length)
def ChaI (C : Cf) (w : World) (m : Nat) (wr : World) : Prop := TB C w wr ∧ m ≤ C.l2.length ∧ ∀ j, j < m → chE C j = 0
set_option maxRecDepth 100000 in
set_option maxHeartbeats 2000000 in
theorem channels_calls (C : Cf) (w : World) (hC : C.At w) (hL : C.Lim) (hT : TenOK C) : Calls Tryd.prog 38 #[.agg C.v] w fun e w' => e = .returned (.agg #[.int .i64 (chaF C).1, .int .i64 (chaF C).2]) ∧ Below w.heap.size w w' := by
  have HC := Aside0.mk hC
  have HL := Aside0.mk hL
  clear hC hL
  have HTO := Aside0.mk hT
  clear hT
  have key : ∀ q : Int × Int, chaF C = q → Calls Tryd.prog 38 #[.agg C.v] w fun e w' => e = .returned (.agg #[.int .i64 q.1, .int .i64 q.2]) ∧ Below w.heap.size w w' := by
    rintro ⟨qn, qe⟩ hq
    have HQ := Aside0.mk hq
    clear hq
    go_enter Tryd.func38, Tryd.ntmps38
    go_upto_region 1 with fail
    have HT := Aside0.mk (TB.start C w)
    generalize ((w.alloc (.cells C.v 28)).alloc (.cells #[.int .i64 0, .int .i64 0] 90)) = w2 at HT ⊢
    obtain ⟨z0, z1, f0, f1⟩ := HT.out.r
    obtain ⟨A2, hA2⟩ : ∃ A, C.A2 = A := ⟨_, rfl⟩
    have HA2 := Aside0.mk hA2
    clear hA2
    have x2 := (cf_cell HT.out.e0).2.2.1
    rw [HA2.out] at x2
    by_cases h32 : C.l2.length > 32
    · have d1 : decide ((C.l2.length : Int) > 32) = true := decide_eq_true (by omega)
      have d1' : decide (32 < C.l2.length) = true := decide_eq_true h32
      have e : chaF C = (0, 3) := by unfold chaF; exact if_pos h32
      rw [HQ.out] at e
      simp only [Prod.mk.injEq] at e
      obtain ⟨rfl, rfl⟩ := e
      go_wp2_with fail
      obtain ⟨g0, g1, g2⟩ := HT.out.fin 0 3
      generalize ((w2.setCell ⟨w.heap.size + 1, 0, none⟩ (.int .i64 0)).setCell ⟨w.heap.size + 1, 1, none⟩ (.int .i64 3)) = w3 at g0 g1 g2 ⊢
      exact bodyPost_ret (v := .agg #[.int .i64 0, .int .i64 3]) (by simp [results, Tryd.results38, go_sem, g1, g2]) rfl ⟨rfl, g0⟩
    · have d1 : decide ((C.l2.length : Int) > 32) = false := decide_eq_false (by omega)
      have d1' : decide (32 < C.l2.length) = false := decide_eq_false h32
      have e : chaF C = toldOf (scan (chE C) 0 C.l2.length) := by unfold chaF; exact if_neg h32
      have HE := Aside0.mk (HQ.out.symm.trans e)
      clear e
      have H0 : Aside0 (ChaI C w 0 w2) := ⟨⟨HT.out, Nat.zero_le _, fun j hj => absurd hj (by omega)⟩⟩
      go_wp2_with fail
      go_loopw [3] (fun i wr => ∃ m : Nat, i = .int .i64 (m : Int) ∧ Aside0 (ChaI C w m wr)) (fun i _ => C.l2.length - (intOf i).toNat)
      case atStart => exact ⟨0, rfl, H0⟩
      case round =>
        clear H0 HT z0 z1 f0 f1 x2
        obtain ⟨m, rfl, hS⟩ := hrel
        have x2 := (cf_cell hS.out.1.e0).2.2.1
        rw [HA2.out] at x2
        obtain ⟨z0, z1, f0, f1⟩ := hS.out.1.r
        have hlim : C.l2.length ≤ 1000 := HL.out.l2.1
        by_cases h1 : (m : Int) < (C.l2.length : Int)
        · have e1 : decide ((m : Int) < (C.l2.length : Int)) = true := decide_eq_true h1
          have H1 := Aside0.mk h1
          have h00 : (0 : Int) ≤ (m : Int) := by omega
          obtain ⟨ad, B1, b1, B2, b2, eA, y0, y1, y2, q1, q2, q3, q4⟩ := at_T87 (HC.out.below hS.out.1.b).r2 (m : Int) h00 h1
          obtain rfl : A2 = some ad := HA2.out.symm.trans eA
          rw [Int.toNat_natCast] at y0 y1 y2
          have hlen := HL.out.l2.at m
          obtain ⟨lx, hlx⟩ : ∃ x, rd_T87 C.l2 (m : Int) = x := ⟨_, rfl⟩
          rw [hlx] at y0 y1 y2 q1 q2 q3 q4 hlen
          have HLX := Aside0.mk hlx
          have HR := Aside0.mk (And.intro q2 q4)
          have HLEN := Aside0.mk hlen
          clear hlx q1 q2 q3 q4 eA hlen
          obtain ⟨p1, hp1⟩ : ∃ b, isLB C lx.f0 = b := ⟨_, rfl⟩
          obtain ⟨le, hle⟩ : ∃ b, lanF C lx = b := ⟨_, rfl⟩
          obtain ⟨re, hre⟩ : ∃ b, recF C lx = b := ⟨_, rfl⟩
          have HB := Aside0.mk hp1
          have HLF := Aside0.mk hle
          have HRF := Aside0.mk hre
          have HCE : Aside0 (chE C m = if p1 = false then 41 else if le = 0 then re else le) := ⟨by unfold chE; rw [HLX.out, hp1, hle, hre]⟩
          clear hp1 hle hre
          go_upto_region 7 with fail
          have BG : Aside0 (Below wr.heap.size wr (wr.alloc (.cells #[.int .i64 lx.f0, .slice B1 lx.f1.length b1, .slice B2 lx.f2.length b2] 87))) := ⟨(Below.refl _ _).alloc (Nat.le_refl _) _⟩
          have EG : Aside0 ((wr.alloc (.cells #[.int .i64 lx.f0, .slice B1 lx.f1.length b1, .slice B2 lx.f2.length b2] 87)).heap[wr.heap.size]? = some (.cells #[.int .i64 lx.f0, .slice B1 lx.f1.length b1, .slice B2 lx.f2.length b2] 87 (0, 0))) := ⟨World.alloc_heap_new _ _⟩
          generalize wr.alloc (.cells #[.int .i64 lx.f0, .slice B1 lx.f1.length b1, .slice B2 lx.f2.length b2] 87) = wg at BG EG ⊢
          have HG := Aside0.mk (hS.out.1.below BG.out)
          have g0 := (ch_cell EG.out).1
          cases p1 with
          | false =>
            go_upto_region 8 with (first | ((with_reducible refine gate_ (.load 28 (.tmp 1)) rfl ?_); refine load_blk rfl 28 (.tmp 1) rfl w.heap.size _ 28 rfl _ (by exact HG.out.e0) Tryd.underlying28 rfl (by kernel_rfl) ?_) | (go_at_call 67; refine (lab_calls C lx.f0 _).mono ?_; rintro e wa ⟨rfl, hb⟩; rw [HB.out]; have N1 := Aside0.mk hb; clear hb))
            have HT2 := Aside0.mk (HG.out.below N1.out)
            obtain ⟨u0, u1, s0, s1⟩ := HT2.out.r
            go_wp2_with fail
            have hpf : chE C m = 41 := HCE.out.trans (if_pos (by trivial))
            have eq := HE.out.trans (told_hit (f := chE C) (i := m) (by rw [hpf]; decide) (by have := H1.out; omega) hS.out.2.2)
            rw [hpf] at eq
            simp only [Prod.mk.injEq] at eq
            obtain ⟨rfl, hqe⟩ := eq
            subst qe
            obtain ⟨g0, g1, g2⟩ := HT2.out.fin (m : Int) 41
            generalize ((wa.setCell ⟨w.heap.size + 1, 0, none⟩ (.int .i64 (m : Int))).setCell ⟨w.heap.size + 1, 1, none⟩ (.int .i64 41)) = w3 at g0 g1 g2 ⊢
            exact bodyPost_ret (v := .agg #[.int .i64 (m : Int), .int .i64 41]) (by simp [results, Tryd.results38, go_sem, g1, g2]) rfl ⟨rfl, g0⟩
          | true =>
            go_upto_region 9 with (first | ((with_reducible refine gate_ (.load 28 (.tmp 1)) rfl ?_); refine load_blk rfl 28 (.tmp 1) rfl w.heap.size _ 28 rfl _ (by exact HG.out.e0) Tryd.underlying28 rfl (by kernel_rfl) ?_) | (go_at_call 67; refine (lab_calls C lx.f0 _).mono ?_; rintro e wa ⟨rfl, hb⟩; rw [HB.out]; have N1 := Aside0.mk hb; clear hb))
            have HA := Aside0.mk (HG.out.below N1.out)
            have HGA : Aside0 (Below wr.heap.size wr wa) := ⟨BG.out.trans (N1.out.mono BG.out.size)⟩
            have EA := Aside0.mk (obj_below N1.out EG.out)
            clear g0
            by_cases h3 : le = 0
            · have d3 : (le == 0) = true := by simpa using h3
              have d3' : decide (le = 0) = true := decide_eq_true h3
              have H3 := Aside0.mk h3
              clear h3
              by_cases h4 : re = 0
              · have d4 : (re != 0) = false := by simpa using h4
                have d4' : decide (re = 0) = true := decide_eq_true h4
                have HGOOD : Aside0 (chE C m = 0) := ⟨by rw [HCE.out, if_neg (by decide), if_pos H3.out]; exact h4⟩
                clear h4
                go_wp2_with (first | ((with_reducible refine gate_ (.load 28 (.tmp 1)) rfl ?_); refine load_blk rfl 28 (.tmp 1) rfl w.heap.size _ 28 rfl _ (by first | exact HA.out.e0 | exact (HA.out.below N2.out).e0) Tryd.underlying28 rfl (by kernel_rfl) ?_) | ((with_reducible refine gate_ (.load 87 (.tmp 4)) rfl ?_); refine load_blk rfl 87 (.tmp 4) rfl wr.heap.size _ 87 rfl _ (by first | exact EA.out | exact obj_below N2.out EA.out) Tryd.underlying87 rfl (by kernel_rfl) ?_) | (go_at_call 69; refine (lanes_calls C lx B1 B2 b1 b2 _ (HC.out.below HA.out.b) HL.out HTO.out HLEN.out.1 (Kd.C_below HR.out.1 (HGA.out))).mono ?_; rintro e wb ⟨rfl, hb⟩; rw [HLF.out]; have N2 := Aside0.mk hb; clear hb) | (go_at_call 70; refine (receivers_calls C lx B1 B2 b1 b2 _ (HC.out.below (HA.out.below N2.out).b) HL.out HTO.out HLEN.out.2 HB.out (Kd.C_below HR.out.2 (HGA.out.trans (N2.out.mono HGA.out.size)))).mono ?_; rintro e wc ⟨rfl, hb⟩; rw [HRF.out]; have N3 := Aside0.mk hb; clear hb))
                go_roundw
                case rel => exact ⟨m + 1, by go_num, ⟨(HA.out.below N2.out).below N3.out, by have := H1.out; omega, fun j hj => by
                  by_cases e : j = m
                  · subst e; exact HGOOD.out
                  · exact hS.out.2.2 j (by omega)⟩⟩
                case measure => simp [intOf]; have := H1.out; omega
              · have d4 : (re != 0) = true := by simpa using h4
                have d4' : decide (re = 0) = false := decide_eq_false h4
                have H4 := Aside0.mk h4
                clear h4
                go_upto_region 13 with (first | ((with_reducible refine gate_ (.load 28 (.tmp 1)) rfl ?_); refine load_blk rfl 28 (.tmp 1) rfl w.heap.size _ 28 rfl _ (by first | exact HA.out.e0 | exact (HA.out.below N2.out).e0) Tryd.underlying28 rfl (by kernel_rfl) ?_) | ((with_reducible refine gate_ (.load 87 (.tmp 4)) rfl ?_); refine load_blk rfl 87 (.tmp 4) rfl wr.heap.size _ 87 rfl _ (by first | exact EA.out | exact obj_below N2.out EA.out) Tryd.underlying87 rfl (by kernel_rfl) ?_) | (go_at_call 69; refine (lanes_calls C lx B1 B2 b1 b2 _ (HC.out.below HA.out.b) HL.out HTO.out HLEN.out.1 (Kd.C_below HR.out.1 (HGA.out))).mono ?_; rintro e wb ⟨rfl, hb⟩; rw [HLF.out]; have N2 := Aside0.mk hb; clear hb) | (go_at_call 70; refine (receivers_calls C lx B1 B2 b1 b2 _ (HC.out.below (HA.out.below N2.out).b) HL.out HTO.out HLEN.out.2 HB.out (Kd.C_below HR.out.2 (HGA.out.trans (N2.out.mono HGA.out.size)))).mono ?_; rintro e wc ⟨rfl, hb⟩; rw [HRF.out]; have N3 := Aside0.mk hb; clear hb))
                have HT2 := Aside0.mk ((HA.out.below N2.out).below N3.out)
                obtain ⟨u0, u1, s0, s1⟩ := HT2.out.r
                go_wp2_with fail
                have hpf : chE C m = re := by rw [HCE.out, if_neg (by decide), if_pos H3.out]
                have eq := HE.out.trans (told_hit (f := chE C) (i := m) (by rw [hpf]; exact H4.out) (by have := H1.out; omega) hS.out.2.2)
                rw [hpf] at eq
                simp only [Prod.mk.injEq] at eq
                obtain ⟨rfl, hqe⟩ := eq
                subst qe
                obtain ⟨g0, g1, g2⟩ := HT2.out.fin (m : Int) re
                generalize ((wc.setCell ⟨w.heap.size + 1, 0, none⟩ (.int .i64 (m : Int))).setCell ⟨w.heap.size + 1, 1, none⟩ (.int .i64 re)) = w3 at g0 g1 g2 ⊢
                exact bodyPost_ret (v := .agg #[.int .i64 (m : Int), .int .i64 re]) (by simp [results, Tryd.results38, go_sem, g1, g2]) rfl ⟨rfl, g0⟩
            · have d3 : (le == 0) = false := by simpa using h3
              have d3' : decide (le = 0) = false := decide_eq_false h3
              have d5 : (le != 0) = true := by simpa using h3
              have H3 := Aside0.mk h3
              clear h3
              go_upto_region 13 with (first | ((with_reducible refine gate_ (.load 28 (.tmp 1)) rfl ?_); refine load_blk rfl 28 (.tmp 1) rfl w.heap.size _ 28 rfl _ (by exact HA.out.e0) Tryd.underlying28 rfl (by kernel_rfl) ?_) | ((with_reducible refine gate_ (.load 87 (.tmp 4)) rfl ?_); refine load_blk rfl 87 (.tmp 4) rfl wr.heap.size _ 87 rfl _ (by exact EA.out) Tryd.underlying87 rfl (by kernel_rfl) ?_) | (go_at_call 69; refine (lanes_calls C lx B1 B2 b1 b2 _ (HC.out.below HA.out.b) HL.out HTO.out HLEN.out.1 (Kd.C_below HR.out.1 (HGA.out))).mono ?_; rintro e wb ⟨rfl, hb⟩; rw [HLF.out]; have N2 := Aside0.mk hb; clear hb))
              have HT2 := Aside0.mk (HA.out.below N2.out)
              obtain ⟨u0, u1, s0, s1⟩ := HT2.out.r
              go_wp2_with fail
              have hpf : chE C m = le := by rw [HCE.out, if_neg (by decide), if_neg H3.out]
              have eq := HE.out.trans (told_hit (f := chE C) (i := m) (by rw [hpf]; exact H3.out) (by have := H1.out; omega) hS.out.2.2)
              rw [hpf] at eq
              simp only [Prod.mk.injEq] at eq
              obtain ⟨rfl, hqe⟩ := eq
              subst qe
              obtain ⟨g0, g1, g2⟩ := HT2.out.fin (m : Int) le
              generalize ((wb.setCell ⟨w.heap.size + 1, 0, none⟩ (.int .i64 (m : Int))).setCell ⟨w.heap.size + 1, 1, none⟩ (.int .i64 le)) = w3 at g0 g1 g2 ⊢
              exact bodyPost_ret (v := .agg #[.int .i64 (m : Int), .int .i64 le]) (by simp [results, Tryd.results38, go_sem, g1, g2]) rfl ⟨rfl, g0⟩
        · have e1 : decide ((m : Int) < (C.l2.length : Int)) = false := decide_eq_false h1
          have H1 := Aside0.mk h1
          go_wp2_with fail
          have eq := HE.out.trans (told_none (fun j hj => hS.out.2.2 j (by have := H1.out; omega)))
          simp only [Prod.mk.injEq] at eq
          obtain ⟨rfl, rfl⟩ := eq
          obtain ⟨g0, g1, g2⟩ := hS.out.1.fin 0 0
          generalize ((wr.setCell ⟨w.heap.size + 1, 0, none⟩ (.int .i64 0)).setCell ⟨w.heap.size + 1, 1, none⟩ (.int .i64 0)) = w3 at g0 g1 g2 ⊢
          exact bodyPost_ret (v := .agg #[.int .i64 0, .int .i64 0]) (by simp [results, Tryd.results38, go_sem, g1, g2]) rfl ⟨rfl, g0⟩
  exact key _ rfl
end Go.Proofs.YtoliipbmcekciaaDoor.QDd

