/- Texts of this claim, joined: UBDe, UDDe. -/
import Derived.Test.YtoliipbmcekciaaDoorZ05
namespace Go.Proofs.YtoliipbmcekciaaDoor.QDd
open Go.RowKit Go.Proofs.YtoliipbmcekciaaDoorW.PrintWords Go.Proofs.YtoliipbmcekciaaDoorW.PrintLast Go.Proofs.YtoliipbmcekciaaDoorW.PrintMore
open Go.Proofs.YtoliipbmcekciaaDoor.QDc (tk putL putN obj_below take_at yields_blk load_blk load_any store_blk blk_setCells setAll far_setCells below_setCells)
set_option linter.unusedVariables false
set_option linter.unusedSimpArgs false
def TenQ (C : Cf) (w : World) (m : Nat) (wr : World) : Prop := TQ C w wr ∧ m ≤ C.l1.length ∧ ∀ j, j < m → okTen C j = true
set_option maxRecDepth 100000 in
set_option maxHeartbeats 2000000 in
theorem tenants2_calls (C : Cf) (w : World) (hC : C.At w) (hL : C.Lim) : Calls Tryd.prog 78 #[.agg C.v] w fun e w' => e = .returned (.agg #[.int .i64 (tenF C).1, .int .i64 (tenF C).2]) ∧ Below w.heap.size w w' := by
  have HC := Aside0.mk hC
  have HL := Aside0.mk hL
  clear hC hL
  have key : ∀ q : Int × Int, tenF C = q → Calls Tryd.prog 78 #[.agg C.v] w fun e w' => e = .returned (.agg #[.int .i64 q.1, .int .i64 q.2]) ∧ Below w.heap.size w w' := by
    rintro ⟨qn, qe⟩ hq
    have HQ := Aside0.mk hq
    clear hq
    go_enter Tryd.func78, Tryd.ntmps78
    go_upto_region 1 with fail
    have HT := Aside0.mk (TQ.start C w)
    generalize ((w.alloc (.cells C.v 122)).alloc (.cells #[.int .i64 0, .int .i64 0] 126)) = w2 at HT ⊢
    obtain ⟨z0, z1, f0, f1⟩ := HT.out.r
    obtain ⟨A1, hA1⟩ : ∃ A, C.A1 = A := ⟨_, rfl⟩
    have HA1 := Aside0.mk hA1
    clear hA1
    have x1 := (cq_cell HT.out.e0).2.1
    rw [HA1.out] at x1
    by_cases h16 : C.l1.length > 16
    · have d1 : decide ((C.l1.length : Int) > 16) = true := decide_eq_true (by omega)
      have d1' : decide (16 < C.l1.length) = true := decide_eq_true h16
      have e : tenF C = (0, 3) := by exact if_pos h16
      rw [HQ.out] at e
      simp only [Prod.mk.injEq] at e
      obtain ⟨rfl, rfl⟩ := e
      go_wp2_with fail
      obtain ⟨g0, g1, g2⟩ := HT.out.fin 0 3
      generalize ((w2.setCell ⟨w.heap.size + 1, 0, none⟩ (.int .i64 0)).setCell ⟨w.heap.size + 1, 1, none⟩ (.int .i64 3)) = w3 at g0 g1 g2 ⊢
      exact bodyPost_ret (v := .agg #[.int .i64 0, .int .i64 3]) (by simp [results, Tryd.results78, go_sem, g1, g2]) rfl ⟨rfl, g0⟩
    · have d1 : decide ((C.l1.length : Int) > 16) = false := decide_eq_false (by omega)
      have d1' : decide (16 < C.l1.length) = false := decide_eq_false h16
      by_cases h0 : C.l1.length = 0
      · have d2 : ((C.l1.length : Int) == 0) = true := by simpa using h0
        have e : tenF C = (0, 40) := by unfold tenF; rw [if_neg h16, if_pos h0]
        rw [HQ.out] at e
        simp only [Prod.mk.injEq] at e
        obtain ⟨rfl, rfl⟩ := e
        go_wp2_with fail
        obtain ⟨g0, g1, g2⟩ := HT.out.fin 0 40
        generalize ((w2.setCell ⟨w.heap.size + 1, 0, none⟩ (.int .i64 0)).setCell ⟨w.heap.size + 1, 1, none⟩ (.int .i64 40)) = w3 at g0 g1 g2 ⊢
        exact bodyPost_ret (v := .agg #[.int .i64 0, .int .i64 40]) (by simp [results, Tryd.results78, go_sem, g1, g2]) rfl ⟨rfl, g0⟩
      · have d2 : ((C.l1.length : Int) == 0) = false := by simpa using h0
        have e : tenF C = toldOf (scan (fun i => if okTen C i = true then 0 else 40) 0 C.l1.length) := by unfold tenF; rw [if_neg h16, if_neg h0]
        have HE := Aside0.mk (HQ.out.symm.trans e)
        clear e
        have H0 : Aside0 (TenQ C w 0 w2) := ⟨⟨HT.out, Nat.zero_le _, fun j hj => absurd hj (by omega)⟩⟩
        go_wp2_with fail
        go_loopw [4, 5, 22] (fun _ _ i wr => ∃ m : Nat, i = .int .i64 (m : Int) ∧ Aside0 (TenQ C w m wr)) (fun _ _ i _ => C.l1.length - (intOf i).toNat)
        case atStart => exact ⟨0, rfl, H0⟩
        case round =>
          clear H0 HT z0 z1 f0 f1 x1
          obtain ⟨m, rfl, hS⟩ := hrel
          have x1 := (cq_cell hS.out.1.e0).2.1
          rw [HA1.out] at x1
          obtain ⟨z0, z1, f0, f1⟩ := hS.out.1.r
          have hlim : C.l1.length ≤ 1000 := HL.out.l1
          by_cases h1 : (m : Int) < (C.l1.length : Int)
          · have e1 : decide ((m : Int) < (C.l1.length : Int)) = true := decide_eq_true h1
            have H1 := Aside0.mk h1
            have h00 : (0 : Int) ≤ (m : Int) := by omega
            obtain ⟨ad, eA, y0, y1⟩ := at_T97 (HC.out.below hS.out.1.b).r1 (m : Int) h00 h1
            obtain rfl : A1 = some ad := HA1.out.symm.trans eA
            rw [Int.toNat_natCast] at y0 y1
            obtain ⟨gx, hgx⟩ : ∃ x, rd_T97 C.l1 (m : Int) = x := ⟨_, rfl⟩
            rw [hgx] at y0 y1
            have HGX := Aside0.mk hgx
            clear hgx
            obtain ⟨b1, hb1⟩ : ∃ b, isLB C gx.f0 = b := ⟨_, rfl⟩
            obtain ⟨b2, hb2⟩ : ∃ b, winB gx.f1 0 256 = b := ⟨_, rfl⟩
            have HB := Aside0.mk (And.intro hb1 hb2)
            clear hb1 hb2
            go_upto_region 9 with fail
            have BG : Aside0 (Below wr.heap.size wr (wr.alloc (.cells #[.int .i64 gx.f0, .int .i64 gx.f1] 97))) := ⟨(Below.refl _ _).alloc (Nat.le_refl _) _⟩
            have EG : Aside0 ((wr.alloc (.cells #[.int .i64 gx.f0, .int .i64 gx.f1] 97)).heap[wr.heap.size]? = some (.cells #[.int .i64 gx.f0, .int .i64 gx.f1] 97 (0, 0))) := ⟨World.alloc_heap_new _ _⟩
            generalize wr.alloc (.cells #[.int .i64 gx.f0, .int .i64 gx.f1] 97) = wg at BG EG ⊢
            have HG := Aside0.mk (hS.out.1.below BG.out)
            have g0 : wg.cell? ⟨wr.heap.size, 0, none⟩ = some (.int .i64 gx.f0) := by simp [World.cell?, EG.out]
            have g1 : wg.cell? ⟨wr.heap.size, 1, none⟩ = some (.int .i64 gx.f1) := by simp [World.cell?, EG.out]
            cases b1 with
            | false =>
              go_upto_region 10 with (first | ((with_reducible refine gate_ (.load 122 (.tmp 1)) rfl ?_); (try (refine gate_guard (by rfl) ?_; dsimp only)); refine load_blk rfl 122 (.tmp 1) rfl w.heap.size _ 122 rfl _ (by first | exact HG.out.e0 | exact (HG.out.below N1.out).e0) Tryd.underlying122 rfl (by kernel_rfl) ?_) | (go_at_call 99; (with_reducible refine (lab2_calls C gx.f0 _ HL.out.l0).mono ?_); rintro e wa ⟨rfl, hb⟩; rw [HB.out.1]; have N1 := Aside0.mk hb; have t1 := pw_cell_below hb g1; clear hb))
              have HT2 := Aside0.mk (HG.out.below N1.out)
              obtain ⟨u0, u1, s0, s1⟩ := HT2.out.r
              go_wp2_with fail
              have hbad : ¬ okTen C m = true := by unfold okTen; rw [HGX.out, HB.out.1]; simp
              have eq := HE.out.trans (told_hit (i := m) (by rw [if_neg hbad]; decide) (by have := H1.out; omega) (fun j hj => if_pos (hS.out.2.2 j hj)))
              rw [if_neg hbad] at eq
              simp only [Prod.mk.injEq] at eq
              obtain ⟨rfl, rfl⟩ := eq
              obtain ⟨g0, g1, g2⟩ := HT2.out.fin (m : Int) 40
              generalize ((wa.setCell ⟨w.heap.size + 1, 0, none⟩ (.int .i64 (m : Int))).setCell ⟨w.heap.size + 1, 1, none⟩ (.int .i64 40)) = w3 at g0 g1 g2 ⊢
              exact bodyPost_ret (v := .agg #[.int .i64 (m : Int), .int .i64 40]) (by simp [results, Tryd.results78, go_sem, g1, g2]) rfl ⟨rfl, g0⟩
            | true =>
              cases b2 with
              | false =>
                go_upto_region 10 with (first | ((with_reducible refine gate_ (.load 122 (.tmp 1)) rfl ?_); (try (refine gate_guard (by rfl) ?_; dsimp only)); refine load_blk rfl 122 (.tmp 1) rfl w.heap.size _ 122 rfl _ (by first | exact HG.out.e0 | exact (HG.out.below N1.out).e0) Tryd.underlying122 rfl (by kernel_rfl) ?_) | (go_at_call 99; (with_reducible refine (lab2_calls C gx.f0 _ HL.out.l0).mono ?_); rintro e wa ⟨rfl, hb⟩; rw [HB.out.1]; have N1 := Aside0.mk hb; have t1 := pw_cell_below hb g1; clear hb) | (go_at_call 100; refine (win2_calls _ _ _ _).mono ?_; rintro e wc ⟨rfl, rfl⟩; rw [HB.out.2]))
                have HT2 := Aside0.mk (HG.out.below N1.out)
                obtain ⟨u0, u1, s0, s1⟩ := HT2.out.r
                go_wp2_with fail
                have hbad : ¬ okTen C m = true := by unfold okTen; rw [HGX.out, HB.out.1, HB.out.2]; decide
                have eq := HE.out.trans (told_hit (i := m) (by rw [if_neg hbad]; decide) (by have := H1.out; omega) (fun j hj => if_pos (hS.out.2.2 j hj)))
                rw [if_neg hbad] at eq
                simp only [Prod.mk.injEq] at eq
                obtain ⟨rfl, rfl⟩ := eq
                obtain ⟨g0, g1, g2⟩ := HT2.out.fin (m : Int) 40
                generalize ((wa.setCell ⟨w.heap.size + 1, 0, none⟩ (.int .i64 (m : Int))).setCell ⟨w.heap.size + 1, 1, none⟩ (.int .i64 40)) = w3 at g0 g1 g2 ⊢
                exact bodyPost_ret (v := .agg #[.int .i64 (m : Int), .int .i64 40]) (by simp [results, Tryd.results78, go_sem, g1, g2]) rfl ⟨rfl, g0⟩
              | true =>
                go_wp2_with (first | ((with_reducible refine gate_ (.load 122 (.tmp 1)) rfl ?_); (try (refine gate_guard (by rfl) ?_; dsimp only)); refine load_blk rfl 122 (.tmp 1) rfl w.heap.size _ 122 rfl _ (by first | exact HG.out.e0 | exact (HG.out.below N1.out).e0) Tryd.underlying122 rfl (by kernel_rfl) ?_) | (go_at_call 99; (with_reducible refine (lab2_calls C gx.f0 _ HL.out.l0).mono ?_); rintro e wa ⟨rfl, hb⟩; rw [HB.out.1]; have N1 := Aside0.mk hb; have t1 := pw_cell_below hb g1; clear hb) | (go_at_call 100; refine (win2_calls _ _ _ _).mono ?_; rintro e wc ⟨rfl, rfl⟩; rw [HB.out.2]))
                have HT2 := Aside0.mk (HG.out.below N1.out)
                go_roundw
                case rel => exact ⟨m + 1, by go_num, ⟨HT2.out, by have := H1.out; omega, fun j hj => by
                  by_cases e : j = m
                  · subst e; unfold okTen; rw [HGX.out, HB.out.1, HB.out.2]; rfl
                  · exact hS.out.2.2 j (by omega)⟩⟩
                case measure => simp [intOf]; have := H1.out; omega
          · skip
            have e1 : decide ((m : Int) < (C.l1.length : Int)) = false := decide_eq_false h1
            have H1 := Aside0.mk h1
            go_wp2_with fail
            have eq := HE.out.trans (told_none (fun j hj => if_pos (hS.out.2.2 j (by have := H1.out; omega))))
            simp only [Prod.mk.injEq] at eq
            obtain ⟨rfl, rfl⟩ := eq
            obtain ⟨g0, g1, g2⟩ := hS.out.1.fin 0 0
            generalize ((wr.setCell ⟨w.heap.size + 1, 0, none⟩ (.int .i64 0)).setCell ⟨w.heap.size + 1, 1, none⟩ (.int .i64 0)) = w3 at g0 g1 g2 ⊢
            exact bodyPost_ret (v := .agg #[.int .i64 0, .int .i64 0]) (by simp [results, Tryd.results78, go_sem, g1, g2]) rfl ⟨rfl, g0⟩
  exact key _ rfl
def GatQ (C : Cf) (w : World) (m : Nat) (wr : World) : Prop := TQ C w wr ∧ m ≤ C.l3.length ∧ ∀ j, j < m → okGat C j = true
set_option maxRecDepth 100000 in
set_option maxHeartbeats 2000000 in
theorem gates2_calls (C : Cf) (w : World) (hC : C.At w) (hL : C.Lim) : Calls Tryd.prog 81 #[.agg C.v] w fun e w' => e = .returned (.agg #[.int .i64 (gatF C).1, .int .i64 (gatF C).2]) ∧ Below w.heap.size w w' := by
  have HC := Aside0.mk hC
  have HL := Aside0.mk hL
  clear hC hL
  have key : ∀ q : Int × Int, gatF C = q → Calls Tryd.prog 81 #[.agg C.v] w fun e w' => e = .returned (.agg #[.int .i64 q.1, .int .i64 q.2]) ∧ Below w.heap.size w w' := by
    rintro ⟨qn, qe⟩ hq
    have HQ := Aside0.mk hq
    clear hq
    go_enter Tryd.func81, Tryd.ntmps81
    go_upto_region 1 with fail
    have HT := Aside0.mk (TQ.start C w)
    generalize ((w.alloc (.cells C.v 122)).alloc (.cells #[.int .i64 0, .int .i64 0] 126)) = w2 at HT ⊢
    obtain ⟨z0, z1, f0, f1⟩ := HT.out.r
    obtain ⟨A3, hA3⟩ : ∃ A, C.A3 = A := ⟨_, rfl⟩
    have HA3 := Aside0.mk hA3
    clear hA3
    have x3 := (cq_cell HT.out.e0).2.2.2.1
    rw [HA3.out] at x3
    by_cases h16 : C.l3.length > 16
    · have d1 : decide ((C.l3.length : Int) > 16) = true := decide_eq_true (by omega)
      have d1' : decide (16 < C.l3.length) = true := decide_eq_true h16
      have e : gatF C = (0, 3) := by unfold gatF; exact if_pos h16
      rw [HQ.out] at e
      simp only [Prod.mk.injEq] at e
      obtain ⟨rfl, rfl⟩ := e
      go_wp2_with fail
      obtain ⟨g0, g1, g2⟩ := HT.out.fin 0 3
      generalize ((w2.setCell ⟨w.heap.size + 1, 0, none⟩ (.int .i64 0)).setCell ⟨w.heap.size + 1, 1, none⟩ (.int .i64 3)) = w3 at g0 g1 g2 ⊢
      exact bodyPost_ret (v := .agg #[.int .i64 0, .int .i64 3]) (by simp [results, Tryd.results81, go_sem, g1, g2]) rfl ⟨rfl, g0⟩
    · have d1 : decide ((C.l3.length : Int) > 16) = false := decide_eq_false (by omega)
      have d1' : decide (16 < C.l3.length) = false := decide_eq_false h16
      have e : gatF C = toldOf (scan (fun i => if okGat C i = true then 0 else 46) 0 C.l3.length) := by unfold gatF; exact if_neg h16
      have HE := Aside0.mk (HQ.out.symm.trans e)
      clear e
      have H0 : Aside0 (GatQ C w 0 w2) := ⟨⟨HT.out, Nat.zero_le _, fun j hj => absurd hj (by omega)⟩⟩
      go_wp2_with fail
      go_loopw [3, 4, 15] (fun _ _ i wr => ∃ m : Nat, i = .int .i64 (m : Int) ∧ Aside0 (GatQ C w m wr)) (fun _ _ i _ => C.l3.length - (intOf i).toNat)
      case atStart => exact ⟨0, rfl, H0⟩
      case round =>
        clear H0 HT z0 z1 f0 f1 x3
        obtain ⟨m, rfl, hS⟩ := hrel
        have x3 := (cq_cell hS.out.1.e0).2.2.2.1
        rw [HA3.out] at x3
        obtain ⟨z0, z1, f0, f1⟩ := hS.out.1.r
        have hlim : C.l3.length ≤ 1000 := HL.out.l3
        by_cases h1 : (m : Int) < (C.l3.length : Int)
        · have e1 : decide ((m : Int) < (C.l3.length : Int)) = true := decide_eq_true h1
          have H1 := Aside0.mk h1
          have h00 : (0 : Int) ≤ (m : Int) := by omega
          obtain ⟨ad, eA, y0, y1, y2⟩ := at_T107 (HC.out.below hS.out.1.b).r3 (m : Int) h00 h1
          obtain rfl : A3 = some ad := HA3.out.symm.trans eA
          rw [Int.toNat_natCast] at y0 y1 y2
          obtain ⟨gx, hgx⟩ : ∃ x, rd_T107 C.l3 (m : Int) = x := ⟨_, rfl⟩
          rw [hgx] at y0 y1 y2
          have HGX := Aside0.mk hgx
          clear hgx
          obtain ⟨b1, hb1⟩ : ∃ b, isTB C gx.f0 = b := ⟨_, rfl⟩
          obtain ⟨b2, hb2⟩ : ∃ b, isTB C gx.f1 = b := ⟨_, rfl⟩
          obtain ⟨b3, hb3⟩ : ∃ b, winB gx.f2 1 1024 = b := ⟨_, rfl⟩
          have HB := Aside0.mk (And.intro hb1 (And.intro hb2 hb3))
          clear hb1 hb2 hb3
          go_upto_region 6 with fail
          have BG : Aside0 (Below wr.heap.size wr (wr.alloc (.cells #[.int .i64 gx.f0, .int .i64 gx.f1, .int .i64 gx.f2] 107))) := ⟨(Below.refl _ _).alloc (Nat.le_refl _) _⟩
          have EG : Aside0 ((wr.alloc (.cells #[.int .i64 gx.f0, .int .i64 gx.f1, .int .i64 gx.f2] 107)).heap[wr.heap.size]? = some (.cells #[.int .i64 gx.f0, .int .i64 gx.f1, .int .i64 gx.f2] 107 (0, 0))) := ⟨World.alloc_heap_new _ _⟩
          generalize wr.alloc (.cells #[.int .i64 gx.f0, .int .i64 gx.f1, .int .i64 gx.f2] 107) = wg at BG EG ⊢
          have HG := Aside0.mk (hS.out.1.below BG.out)
          have g0 : wg.cell? ⟨wr.heap.size, 0, none⟩ = some (.int .i64 gx.f0) := by simp [World.cell?, EG.out]
          have g1 : wg.cell? ⟨wr.heap.size, 1, none⟩ = some (.int .i64 gx.f1) := by simp [World.cell?, EG.out]
          have g2 : wg.cell? ⟨wr.heap.size, 2, none⟩ = some (.int .i64 gx.f2) := by simp [World.cell?, EG.out]
          cases b1 with
          | false =>
            go_upto_region 7 with (first | ((with_reducible refine gate_ (.load 122 (.tmp 1)) rfl ?_); (try (refine gate_guard (by rfl) ?_; dsimp only)); refine load_blk rfl 122 (.tmp 1) rfl w.heap.size _ 122 rfl _ (by first | exact HG.out.e0 | exact (HG.out.below N1.out).e0) Tryd.underlying122 rfl (by kernel_rfl) ?_) | (go_at_call 104; (with_reducible refine (ten2_calls C gx.f0 _ HL.out.l1).mono ?_); rintro e wa ⟨rfl, hb⟩; rw [HB.out.1]; have N1 := Aside0.mk hb; have t1 := pw_cell_below hb g1; have t2 := pw_cell_below hb g2; clear hb))
            have HT2 := Aside0.mk (HG.out.below N1.out)
            obtain ⟨u0, u1, s0, s1⟩ := HT2.out.r
            go_wp2_with fail
            have hbad : ¬ okGat C m = true := by unfold okGat; rw [HGX.out, HB.out.1]; simp
            have eq := HE.out.trans (told_hit (i := m) (by rw [if_neg hbad]; decide) (by have := H1.out; omega) (fun j hj => if_pos (hS.out.2.2 j hj)))
            rw [if_neg hbad] at eq
            simp only [Prod.mk.injEq] at eq
            obtain ⟨rfl, rfl⟩ := eq
            obtain ⟨g0, g1, g2⟩ := HT2.out.fin (m : Int) 46
            generalize ((wa.setCell ⟨w.heap.size + 1, 0, none⟩ (.int .i64 (m : Int))).setCell ⟨w.heap.size + 1, 1, none⟩ (.int .i64 46)) = w3 at g0 g1 g2 ⊢
            exact bodyPost_ret (v := .agg #[.int .i64 (m : Int), .int .i64 46]) (by simp [results, Tryd.results81, go_sem, g1, g2]) rfl ⟨rfl, g0⟩
          | true =>
            cases b2 with
            | false =>
              go_upto_region 7 with (first | ((with_reducible refine gate_ (.load 122 (.tmp 1)) rfl ?_); (try (refine gate_guard (by rfl) ?_; dsimp only)); refine load_blk rfl 122 (.tmp 1) rfl w.heap.size _ 122 rfl _ (by first | exact HG.out.e0 | exact (HG.out.below N1.out).e0) Tryd.underlying122 rfl (by kernel_rfl) ?_) | (go_at_call 104; (with_reducible refine (ten2_calls C gx.f0 _ HL.out.l1).mono ?_); rintro e wa ⟨rfl, hb⟩; rw [HB.out.1]; have N1 := Aside0.mk hb; have t1 := pw_cell_below hb g1; have t2 := pw_cell_below hb g2; clear hb) | (go_at_call 104; (with_reducible refine (ten2_calls C gx.f1 _ HL.out.l1).mono ?_); rintro e wb ⟨rfl, hb⟩; rw [HB.out.2.1]; have N2 := Aside0.mk hb; have t3 := pw_cell_below hb t2; clear hb))
              have HT2 := Aside0.mk ((HG.out.below N1.out).below N2.out)
              obtain ⟨u0, u1, s0, s1⟩ := HT2.out.r
              go_wp2_with fail
              have hbad : ¬ okGat C m = true := by unfold okGat; rw [HGX.out, HB.out.1, HB.out.2.1]; simp
              have eq := HE.out.trans (told_hit (i := m) (by rw [if_neg hbad]; decide) (by have := H1.out; omega) (fun j hj => if_pos (hS.out.2.2 j hj)))
              rw [if_neg hbad] at eq
              simp only [Prod.mk.injEq] at eq
              obtain ⟨rfl, rfl⟩ := eq
              obtain ⟨g0, g1, g2⟩ := HT2.out.fin (m : Int) 46
              generalize ((wb.setCell ⟨w.heap.size + 1, 0, none⟩ (.int .i64 (m : Int))).setCell ⟨w.heap.size + 1, 1, none⟩ (.int .i64 46)) = w3 at g0 g1 g2 ⊢
              exact bodyPost_ret (v := .agg #[.int .i64 (m : Int), .int .i64 46]) (by simp [results, Tryd.results81, go_sem, g1, g2]) rfl ⟨rfl, g0⟩
            | true =>
              cases b3 with
              | false =>
                go_upto_region 7 with (first | ((with_reducible refine gate_ (.load 122 (.tmp 1)) rfl ?_); (try (refine gate_guard (by rfl) ?_; dsimp only)); refine load_blk rfl 122 (.tmp 1) rfl w.heap.size _ 122 rfl _ (by first | exact HG.out.e0 | exact (HG.out.below N1.out).e0) Tryd.underlying122 rfl (by kernel_rfl) ?_) | (go_at_call 104; (with_reducible refine (ten2_calls C gx.f0 _ HL.out.l1).mono ?_); rintro e wa ⟨rfl, hb⟩; rw [HB.out.1]; have N1 := Aside0.mk hb; have t1 := pw_cell_below hb g1; have t2 := pw_cell_below hb g2; clear hb) | (go_at_call 104; (with_reducible refine (ten2_calls C gx.f1 _ HL.out.l1).mono ?_); rintro e wb ⟨rfl, hb⟩; rw [HB.out.2.1]; have N2 := Aside0.mk hb; have t3 := pw_cell_below hb t2; clear hb) | (go_at_call 100; refine (win2_calls _ _ _ _).mono ?_; rintro e wc ⟨rfl, rfl⟩; rw [HB.out.2.2]))
                have HT2 := Aside0.mk ((HG.out.below N1.out).below N2.out)
                obtain ⟨u0, u1, s0, s1⟩ := HT2.out.r
                go_wp2_with fail
                have hbad : ¬ okGat C m = true := by unfold okGat; rw [HGX.out, HB.out.1, HB.out.2.1, HB.out.2.2]; decide
                have eq := HE.out.trans (told_hit (i := m) (by rw [if_neg hbad]; decide) (by have := H1.out; omega) (fun j hj => if_pos (hS.out.2.2 j hj)))
                rw [if_neg hbad] at eq
                simp only [Prod.mk.injEq] at eq
                obtain ⟨rfl, rfl⟩ := eq
                obtain ⟨g0, g1, g2⟩ := HT2.out.fin (m : Int) 46
                generalize ((wb.setCell ⟨w.heap.size + 1, 0, none⟩ (.int .i64 (m : Int))).setCell ⟨w.heap.size + 1, 1, none⟩ (.int .i64 46)) = w3 at g0 g1 g2 ⊢
                exact bodyPost_ret (v := .agg #[.int .i64 (m : Int), .int .i64 46]) (by simp [results, Tryd.results81, go_sem, g1, g2]) rfl ⟨rfl, g0⟩
              | true =>
                go_wp2_with (first | ((with_reducible refine gate_ (.load 122 (.tmp 1)) rfl ?_); (try (refine gate_guard (by rfl) ?_; dsimp only)); refine load_blk rfl 122 (.tmp 1) rfl w.heap.size _ 122 rfl _ (by first | exact HG.out.e0 | exact (HG.out.below N1.out).e0) Tryd.underlying122 rfl (by kernel_rfl) ?_) | (go_at_call 104; (with_reducible refine (ten2_calls C gx.f0 _ HL.out.l1).mono ?_); rintro e wa ⟨rfl, hb⟩; rw [HB.out.1]; have N1 := Aside0.mk hb; have t1 := pw_cell_below hb g1; have t2 := pw_cell_below hb g2; clear hb) | (go_at_call 104; (with_reducible refine (ten2_calls C gx.f1 _ HL.out.l1).mono ?_); rintro e wb ⟨rfl, hb⟩; rw [HB.out.2.1]; have N2 := Aside0.mk hb; have t3 := pw_cell_below hb t2; clear hb) | (go_at_call 100; refine (win2_calls _ _ _ _).mono ?_; rintro e wc ⟨rfl, rfl⟩; rw [HB.out.2.2]))
                have HT2 := Aside0.mk ((HG.out.below N1.out).below N2.out)
                go_roundw
                case rel => exact ⟨m + 1, by go_num, ⟨HT2.out, by have := H1.out; omega, fun j hj => by
                  by_cases e : j = m
                  · subst e; unfold okGat; rw [HGX.out, HB.out.1, HB.out.2.1, HB.out.2.2]; rfl
                  · exact hS.out.2.2 j (by omega)⟩⟩
                case measure => simp [intOf]; have := H1.out; omega
        · skip
          have e1 : decide ((m : Int) < (C.l3.length : Int)) = false := decide_eq_false h1
          have H1 := Aside0.mk h1
          go_wp2_with fail
          have eq := HE.out.trans (told_none (fun j hj => if_pos (hS.out.2.2 j (by have := H1.out; omega))))
          simp only [Prod.mk.injEq] at eq
          obtain ⟨rfl, rfl⟩ := eq
          obtain ⟨g0, g1, g2⟩ := hS.out.1.fin 0 0
          generalize ((wr.setCell ⟨w.heap.size + 1, 0, none⟩ (.int .i64 0)).setCell ⟨w.heap.size + 1, 1, none⟩ (.int .i64 0)) = w3 at g0 g1 g2 ⊢
          exact bodyPost_ret (v := .agg #[.int .i64 0, .int .i64 0]) (by simp [results, Tryd.results81, go_sem, g1, g2]) rfl ⟨rfl, g0⟩
  exact key _ rfl
set_option maxRecDepth 100000 in
set_option maxHeartbeats 2000000 in
theorem budget2_calls (C : Cf) (w : World) (hC : C.At w) (hL : C.Lim) : Calls Tryd.prog 83 #[.agg C.v] w fun e w' => e = .returned (.agg #[.int .i64 (budF C).1, .int .i64 (budF C).2]) ∧ Below w.heap.size w w' := by
  have HC := Aside0.mk hC
  have HL := Aside0.mk hL
  clear hC hL
  have key : ∀ q : Int × Int, budF C = q → Calls Tryd.prog 83 #[.agg C.v] w fun e w' => e = .returned (.agg #[.int .i64 q.1, .int .i64 q.2]) ∧ Below w.heap.size w w' := by
    rintro ⟨qn, qe⟩ hq
    have HQ := Aside0.mk hq
    clear hq
    go_enter Tryd.func83, Tryd.ntmps83
    go_upto_region 1 with fail
    have HT := Aside0.mk (TQ.start C w)
    generalize ((w.alloc (.cells C.v 122)).alloc (.cells #[.int .i64 0, .int .i64 0] 126)) = w2 at HT ⊢
    obtain ⟨z0, z1, f0, f1⟩ := HT.out.r
    have x5 := (cq_cell HT.out.e0).2.2.2.2.2.1
    have x6 := (cq_cell HT.out.e0).2.2.2.2.2.2.1
    have x7 := (cq_cell HT.out.e0).2.2.2.2.2.2.2
    obtain ⟨b1, hb1⟩ : ∃ b, winB C.a5 1 16 = b := ⟨_, rfl⟩
    obtain ⟨b2, hb2⟩ : ∃ b, winB C.a6 1 4 = b := ⟨_, rfl⟩
    obtain ⟨b3, hb3⟩ : ∃ b, winB C.a7 1 4 = b := ⟨_, rfl⟩
    have HB := Aside0.mk (And.intro hb1 (And.intro hb2 hb3))
    have HE : Aside0 ((qn, qe) = if (b1 && (b2 && b3)) = true then (0, 0) else (0, 48)) := ⟨by rw [← HQ.out, ← hb1, ← hb2, ← hb3]; rfl⟩
    clear hb1 hb2 hb3
    cases b1 with
    | false =>
      have eq := HE.out
      simp at eq
      obtain ⟨rfl, rfl⟩ := eq
      go_wp2_with (go_at_call 100; refine (win2_calls _ _ _ _).mono ?_; rintro e wc ⟨rfl, rfl⟩; first | rw [HB.out.1] | rw [HB.out.2.1] | rw [HB.out.2.2])
      obtain ⟨g0, g1, g2⟩ := HT.out.fin 0 48
      generalize ((w2.setCell ⟨w.heap.size + 1, 0, none⟩ (.int .i64 0)).setCell ⟨w.heap.size + 1, 1, none⟩ (.int .i64 48)) = w3 at g0 g1 g2 ⊢
      exact bodyPost_ret (v := .agg #[.int .i64 0, .int .i64 48]) (by simp [results, Tryd.results83, go_sem, g1, g2]) rfl ⟨rfl, g0⟩
    | true =>
      cases b2 with
      | false =>
        have eq := HE.out
        simp at eq
        obtain ⟨rfl, rfl⟩ := eq
        go_wp2_with (go_at_call 100; refine (win2_calls _ _ _ _).mono ?_; rintro e wc ⟨rfl, rfl⟩; first | rw [HB.out.1] | rw [HB.out.2.1] | rw [HB.out.2.2])
        obtain ⟨g0, g1, g2⟩ := HT.out.fin 0 48
        generalize ((w2.setCell ⟨w.heap.size + 1, 0, none⟩ (.int .i64 0)).setCell ⟨w.heap.size + 1, 1, none⟩ (.int .i64 48)) = w3 at g0 g1 g2 ⊢
        exact bodyPost_ret (v := .agg #[.int .i64 0, .int .i64 48]) (by simp [results, Tryd.results83, go_sem, g1, g2]) rfl ⟨rfl, g0⟩
      | true =>
        cases b3 with
        | false =>
          have eq := HE.out
          simp at eq
          obtain ⟨rfl, rfl⟩ := eq
          go_wp2_with (go_at_call 100; refine (win2_calls _ _ _ _).mono ?_; rintro e wc ⟨rfl, rfl⟩; first | rw [HB.out.1] | rw [HB.out.2.1] | rw [HB.out.2.2])
          obtain ⟨g0, g1, g2⟩ := HT.out.fin 0 48
          generalize ((w2.setCell ⟨w.heap.size + 1, 0, none⟩ (.int .i64 0)).setCell ⟨w.heap.size + 1, 1, none⟩ (.int .i64 48)) = w3 at g0 g1 g2 ⊢
          exact bodyPost_ret (v := .agg #[.int .i64 0, .int .i64 48]) (by simp [results, Tryd.results83, go_sem, g1, g2]) rfl ⟨rfl, g0⟩
        | true =>
          have eq := HE.out
          simp at eq
          obtain ⟨rfl, rfl⟩ := eq
          go_wp2_with (go_at_call 100; refine (win2_calls _ _ _ _).mono ?_; rintro e wc ⟨rfl, rfl⟩; first | rw [HB.out.1] | rw [HB.out.2.1] | rw [HB.out.2.2])
          obtain ⟨g0, g1, g2⟩ := HT.out.fin 0 0
          generalize ((w2.setCell ⟨w.heap.size + 1, 0, none⟩ (.int .i64 0)).setCell ⟨w.heap.size + 1, 1, none⟩ (.int .i64 0)) = w3 at g0 g1 g2 ⊢
          exact bodyPost_ret (v := .agg #[.int .i64 0, .int .i64 0]) (by simp [results, Tryd.results83, go_sem, g1, g2]) rfl ⟨rfl, g0⟩
  exact key _ rfl
set_option maxRecDepth 100000 in
set_option maxHeartbeats 2000000 in
theorem Credits2_calls (C : Cf) (t : Int) (w : World) (hC : C.At w) (hL : C.Lim) : Calls Tryd.prog 103 #[.agg C.v, .int .i64 t] w fun e w' => e = .returned (.int .i64 (credF C t)) ∧ Below w.heap.size w w' := by
  have HC := Aside0.mk hC
  have HL := Aside0.mk hL
  clear hC hL
  go_enter Tryd.func103, Tryd.ntmps103
  go_upto_region 1 with fail
  have HT := Aside0.mk (OB.start C w)
  generalize w.alloc (.cells C.v 28) = w2 at HT ⊢
  obtain ⟨A2, hA2⟩ : ∃ A, C.A2 = A := ⟨_, rfl⟩
  have HA2 := Aside0.mk hA2
  clear hA2
  have H0 : Aside0 (CrI C t w 0 0 w2) := ⟨⟨HT.out, Nat.zero_le _, rfl⟩⟩
  have x2 := (cf_cell HT.out.e0).2.2.1
  rw [HA2.out] at x2
  clear HT
  go_wp2_with fail
  go_loopw [5, 7, 13] (fun n _ i wr => ∃ (m : Nat) (s : Int), i = .int .i64 (m : Int) ∧ n = .int .i64 s ∧ Aside0 (CrI C t w m s wr)) (fun _ _ i _ => C.l2.length - (intOf i).toNat)
  case atStart => exact ⟨0, 0, rfl, rfl, H0⟩
  case round =>
    clear H0 x2
    obtain ⟨m, s, rfl, rfl, hS⟩ := hrel
    have x2 := (cf_cell hS.out.1.e0).2.2.1
    rw [HA2.out] at x2
    have hb2 : C.l2.length ≤ 1000 := HL.out.l2.1
    by_cases h1 : (m : Int) < (C.l2.length : Int)
    · have e1 : decide ((m : Int) < (C.l2.length : Int)) = true := decide_eq_true h1
      have H1 := Aside0.mk h1
      have h00 : (0 : Int) ≤ (m : Int) := by omega
      obtain ⟨ad, B1, b1, B2, b2, eA, y0, y1, y2, q1, q2, q3, q4⟩ := at_T87 (HC.out.below hS.out.1.b).r2 (m : Int) h00 h1
      obtain rfl : A2 = some ad := HA2.out.symm.trans eA
      rw [Int.toNat_natCast] at y0 y1 y2
      have HR := Aside0.mk q2
      clear q1 q2 q3 q4 eA
      obtain ⟨f0v, hf0v⟩ : ∃ x, (rd_T87 C.l2 (m : Int)).f0 = x := ⟨_, rfl⟩
      rw [hf0v] at y0
      clear hf0v
      go_upto_region 5 with fail
      have BG : Aside0 (Below wr.heap.size wr (wr.alloc (.cells #[.int .i64 f0v, .slice B1 (rd_T87 C.l2 (m : Int)).f1.length b1, .slice B2 (rd_T87 C.l2 (m : Int)).f2.length b2] 87))) := ⟨(Below.refl _ _).alloc (Nat.le_refl _) _⟩
      have EG : Aside0 ((wr.alloc (.cells #[.int .i64 f0v, .slice B1 (rd_T87 C.l2 (m : Int)).f1.length b1, .slice B2 (rd_T87 C.l2 (m : Int)).f2.length b2] 87)).heap[wr.heap.size]? = some (.cells #[.int .i64 f0v, .slice B1 (rd_T87 C.l2 (m : Int)).f1.length b1, .slice B2 (rd_T87 C.l2 (m : Int)).f2.length b2] 87 (0, 0))) := ⟨World.alloc_heap_new _ _⟩
      generalize wr.alloc (.cells #[.int .i64 f0v, .slice B1 (rd_T87 C.l2 (m : Int)).f1.length b1, .slice B2 (rd_T87 C.l2 (m : Int)).f2.length b2] 87) = wg at BG EG ⊢
      have g1 := (ch_cell EG.out).2.1
      have J0 : Aside0 (CrJ C t w m 0 s wg) := ⟨⟨hS.out.1.below BG.out, Nat.zero_le _, by rw [hS.out.2.2]; unfold sumTo; omega⟩⟩
      go_upto_region 6 with fail
      go_loopw [5, 9, 20] (fun n _ k wj => ∃ (j : Nat) (s : Int), k = .int .i64 (j : Int) ∧ n = .int .i64 s ∧ Aside0 (CrJ C t w m j s wj ∧ Below wr.heap.size wr wj)) (fun _ _ k _ => (rd_T87 C.l2 (m : Int)).f1.length - (intOf k).toNat)
      case atStart => exact ⟨0, s, rfl, rfl, ⟨⟨J0.out, BG.out⟩⟩⟩
      case round =>
        clear J0 x2 y0 y1 y2 g1
        obtain ⟨k, s, rfl, rfl, hJ⟩ := hrel
        have hb1 : (rd_T87 C.l2 (m : Int)).f1.length ≤ 1000 := (HL.out.l2.at m).1
        by_cases h2 : (k : Int) < ((rd_T87 C.l2 (m : Int)).f1.length : Int)
        · have e2 : decide ((k : Int) < ((rd_T87 C.l2 (m : Int)).f1.length : Int)) = true := decide_eq_true h2
          have H2 := Aside0.mk h2
          have h01 : (0 : Int) ≤ (k : Int) := by omega
          obtain ⟨ad2, eB, v0, v1, v2⟩ := at_T103 (Kd.C_below HR.out hJ.out.2) (k : Int) h01 h2
          subst eB
          rw [Int.toNat_natCast] at v0 v1 v2
          obtain ⟨lx, hlx⟩ : ∃ x, rd_T103 (rd_T87 C.l2 (m : Int)).f1 (k : Int) = x := ⟨_, rfl⟩
          have HLX := Aside0.mk hlx
          rw [hlx] at v0 v1 v2
          clear hlx
          go_upto_region 8 with fail
          have BK : Aside0 (Below wr.heap.size wr (wr.alloc (.cells #[.int .i64 lx.f0, .int .i64 lx.f1, .bool lx.f2] 103))) := ⟨(Below.refl _ _).alloc (Nat.le_refl _) _⟩
          have EK : Aside0 ((wr.alloc (.cells #[.int .i64 lx.f0, .int .i64 lx.f1, .bool lx.f2] 103)).heap[wr.heap.size]? = some (.cells #[.int .i64 lx.f0, .int .i64 lx.f1, .bool lx.f2] 103 (0, 0))) := ⟨World.alloc_heap_new _ _⟩
          generalize wr.alloc (.cells #[.int .i64 lx.f0, .int .i64 lx.f1, .bool lx.f2] 103) = wk at BK EK ⊢
          have t0 : wk.cell? ⟨wr.heap.size, 0, none⟩ = some (.int .i64 lx.f0) := by simp [World.cell?, EK.out]
          have t1 : wk.cell? ⟨wr.heap.size, 1, none⟩ = some (.int .i64 lx.f1) := by simp [World.cell?, EK.out]
          have hsb : 0 ≤ s ∧ s ≤ 64064000 := by
            have a1 := sumTo_le (crChan_le C HL.out.l2 t) m
            have a2 := sumTo_le (fun k => crOne_le (rd_T103 (rd_T87 C.l2 (m : Int)).f1 (k : Int)) t) k
            change 0 ≤ sumTo (crLane C t m) k ∧ sumTo (crLane C t m) k ≤ _ at a2
            have a3 := hJ.out.1.2.2
            have a4 := H1.out
            have a5 := HL.out.l2.1
            have a6 := H2.out
            have a7 := (HL.out.l2.at m).1
            omega
          obtain ⟨hs0, hs1⟩ := hsb
          have HSB := Aside0.mk (And.intro hs0 hs1)
          obtain ⟨bw, hbw⟩ : ∃ b, winB lx.f1 1 64 = b := ⟨_, rfl⟩
          have HBW := Aside0.mk hbw
          have step : ∀ d : Int, crOne lx t = d → s + d = sumTo (crChan C t) m + sumTo (crLane C t m) (k + 1) := by
            intro d hd
            show _ = _ + (sumTo (crLane C t m) k + crLane C t m k)
            unfold crLane
            rw [HLX.out, hd, hJ.out.1.2.2]
            unfold crLane
            omega
          have STEP := Aside0.mk step
          clear step
          by_cases h3 : lx.f0 = t
          · have d3 : (lx.f0 == t) = true := by simpa using h3
            have d3' : decide (lx.f0 = t) = true := decide_eq_true h3
            have H3 := Aside0.mk h3
            clear h3
            cases bw with
            | true =>
              have hf : 1 ≤ lx.f1 ∧ lx.f1 ≤ 64 := by have := HBW.out; unfold winB at this; exact of_decide_eq_true this
              obtain ⟨hf0, hf1⟩ := hf
              clear hbw
              go_wp2_with (first | (go_at_call 100; refine (win2_calls _ _ _ _).mono ?_; rintro e wb ⟨rfl, rfl⟩; rw [HBW.out]))
              go_roundw
              case rel => exact ⟨k + 1, s + lx.f1, by go_num, rfl, ⟨⟨hJ.out.1.1.below BK.out, by have := H2.out; omega, STEP.out _ (if_pos ⟨H3.out, HBW.out⟩)⟩, hJ.out.2.trans (BK.out.mono hJ.out.2.size)⟩⟩
              case measure => simp [intOf]; have := H2.out; omega
            | false =>
              clear hbw
              go_wp2_with (first | (go_at_call 100; refine (win2_calls _ _ _ _).mono ?_; rintro e wb ⟨rfl, rfl⟩; rw [HBW.out]))
              go_roundw
              case rel => exact ⟨k + 1, s, by go_num, rfl, ⟨⟨hJ.out.1.1.below BK.out, by have := H2.out; omega, (Int.add_zero s).symm.trans (STEP.out 0 (if_neg (fun h => by have := h.2; rw [HBW.out] at this; exact absurd this (by decide))))⟩, hJ.out.2.trans (BK.out.mono hJ.out.2.size)⟩⟩
              case measure => simp [intOf]; have := H2.out; omega
          · have d3 : (lx.f0 == t) = false := by simpa using h3
            have d3' : decide (lx.f0 = t) = false := decide_eq_false h3
            have H3 := Aside0.mk h3
            clear hbw
            go_wp2_with fail
            go_roundw
            case rel => exact ⟨k + 1, s, by go_num, rfl, ⟨⟨hJ.out.1.1.below BK.out, by have := H2.out; omega, (Int.add_zero s).symm.trans (STEP.out 0 (if_neg (fun h => H3.out h.1)))⟩, hJ.out.2.trans (BK.out.mono hJ.out.2.size)⟩⟩
            case measure => simp [intOf]; have := H2.out; omega
        · have e2 : decide ((k : Int) < ((rd_T87 C.l2 (m : Int)).f1.length : Int)) = false := decide_eq_false h2
          have H2 := Aside0.mk h2
          have hk : k = (rd_T87 C.l2 (m : Int)).f1.length := by have := hJ.out.1.2.1; omega
          have hss : s = sumTo (crChan C t) (m + 1) := by
            rw [hJ.out.1.2.2, hk]; rfl
          have HSS := Aside0.mk hss
          clear hk hss
          go_wp2_with fail
          go_roundw
          case rel => exact ⟨m + 1, s, by go_num, rfl, ⟨hJ.out.1.1, by have := H1.out; omega, HSS.out⟩⟩
          case measure => simp [intOf]; have := H1.out; omega
    · have e1 : decide ((m : Int) < (C.l2.length : Int)) = false := decide_eq_false h1
      have H1 := Aside0.mk h1
      have hss : s = credF C t := by
        have hm : m = C.l2.length := by have := hS.out.2.1; omega
        rw [hS.out.2.2, hm]; rfl
      have HSS := Aside0.mk hss
      clear hss
      go_wp2_with fail
      go_ret
      exact ⟨by rw [← HSS.out]; rfl, hS.out.1.b⟩
def QuoQ (C : Cf) (w : World) (m : Nat) (wr : World) : Prop := TQ C w wr ∧ m ≤ C.l1.length ∧ ∀ j, j < m → okQuo C j = true
set_option maxRecDepth 100000 in
set_option maxHeartbeats 2000000 in
theorem quotas2_calls (C : Cf) (w : World) (hC : C.At w) (hL : C.Lim) : Calls Tryd.prog 80 #[.agg C.v] w fun e w' => e = .returned (.agg #[.int .i64 (quoF C).1, .int .i64 (quoF C).2]) ∧ Below w.heap.size w w' := by
  have HC := Aside0.mk hC
  have HL := Aside0.mk hL
  clear hC hL
  have key : ∀ q : Int × Int, quoF C = q → Calls Tryd.prog 80 #[.agg C.v] w fun e w' => e = .returned (.agg #[.int .i64 q.1, .int .i64 q.2]) ∧ Below w.heap.size w w' := by
    rintro ⟨qn, qe⟩ hq
    have HQ := Aside0.mk hq
    clear hq
    go_enter Tryd.func80, Tryd.ntmps80
    go_upto_region 1 with fail
    have HT := Aside0.mk (TQ.start C w)
    generalize ((w.alloc (.cells C.v 122)).alloc (.cells #[.int .i64 0, .int .i64 0] 126)) = w2 at HT ⊢
    obtain ⟨z0, z1, f0, f1⟩ := HT.out.r
    obtain ⟨A1, hA1⟩ : ∃ A, C.A1 = A := ⟨_, rfl⟩
    have HA1 := Aside0.mk hA1
    clear hA1
    have x1 := (cq_cell HT.out.e0).2.1
    rw [HA1.out] at x1
    have e : quoF C = toldOf (scan (fun i => if okQuo C i = true then 0 else 45) 0 C.l1.length) := by rfl
    have HE := Aside0.mk (HQ.out.symm.trans e)
    clear e
    have H0 : Aside0 (QuoQ C w 0 w2) := ⟨⟨HT.out, Nat.zero_le _, fun j hj => absurd hj (by omega)⟩⟩
    go_wp2_with fail
    go_loopw [3, 4, 9] (fun _ _ i wr => ∃ m : Nat, i = .int .i64 (m : Int) ∧ Aside0 (QuoQ C w m wr)) (fun _ _ i _ => C.l1.length - (intOf i).toNat)
    case atStart => exact ⟨0, rfl, H0⟩
    case round =>
      clear H0 HT z0 z1 f0 f1 x1
      obtain ⟨m, rfl, hS⟩ := hrel
      have x1 := (cq_cell hS.out.1.e0).2.1
      rw [HA1.out] at x1
      obtain ⟨z0, z1, f0, f1⟩ := hS.out.1.r
      have hlim : C.l1.length ≤ 1000 := HL.out.l1
      by_cases h1 : (m : Int) < (C.l1.length : Int)
      · have e1 : decide ((m : Int) < (C.l1.length : Int)) = true := decide_eq_true h1
        have H1 := Aside0.mk h1
        have h00 : (0 : Int) ≤ (m : Int) := by omega
        obtain ⟨ad, eA, y0, y1⟩ := at_T97 (HC.out.below hS.out.1.b).r1 (m : Int) h00 h1
        obtain rfl : A1 = some ad := HA1.out.symm.trans eA
        rw [Int.toNat_natCast] at y0 y1
        obtain ⟨gx, hgx⟩ : ∃ x, rd_T97 C.l1 (m : Int) = x := ⟨_, rfl⟩
        rw [hgx] at y0 y1
        have HGX := Aside0.mk hgx
        clear hgx
        obtain ⟨cr, hcr⟩ : ∃ x, credF C (m : Int) = x := ⟨_, rfl⟩
        have HCR := Aside0.mk hcr
        clear hcr
        go_upto_region 4 with fail
        have BG : Aside0 (Below wr.heap.size wr (wr.alloc (.cells #[.int .i64 gx.f0, .int .i64 gx.f1] 97))) := ⟨(Below.refl _ _).alloc (Nat.le_refl _) _⟩
        have EG : Aside0 ((wr.alloc (.cells #[.int .i64 gx.f0, .int .i64 gx.f1] 97)).heap[wr.heap.size]? = some (.cells #[.int .i64 gx.f0, .int .i64 gx.f1] 97 (0, 0))) := ⟨World.alloc_heap_new _ _⟩
        generalize wr.alloc (.cells #[.int .i64 gx.f0, .int .i64 gx.f1] 97) = wg at BG EG ⊢
        have HG := Aside0.mk (hS.out.1.below BG.out)
        have g0 : wg.cell? ⟨wr.heap.size, 0, none⟩ = some (.int .i64 gx.f0) := by simp [World.cell?, EG.out]
        have g1 : wg.cell? ⟨wr.heap.size, 1, none⟩ = some (.int .i64 gx.f1) := by simp [World.cell?, EG.out]
        by_cases h3 : cr ≤ gx.f1
        · have d3 : decide (gx.f1 < cr) = false := decide_eq_false (by omega)
          have d3' : decide (cr > gx.f1) = false := d3
          have H3 := Aside0.mk h3
          clear h3
          refine wp_region_held_drew (S := fun w' => Below wg.heap.size wg w') (by kernel_rfl) (pw_below_drewN (Below.refl _ _) 1) (fun hHeld => ?_)
          generalize wg.drew = wd at hHeld ⊢
          refine tk (i := 0) (v := _) 14 rfl (Or.inl ⟨by rfl, fun w' hW => by have hq0 := pw_cell_below hW g0; have hq1 := pw_cell_below hW g1; go_simp; try (first | with_reducible rfl | rfl)⟩) hHeld ?_
          try simp only [putL, putN, List.set]
          refine tk (i := 2) (v := _) 16 rfl (Or.inl ⟨by rfl, fun w' hW => by have hq0 := pw_cell_below hW g0; have hq1 := pw_cell_below hW g1; go_simp; try (first | with_reducible rfl | rfl)⟩) hHeld ?_
          try simp only [putL, putN, List.set]
          refine tk (i := 4) (v := _) 18 rfl (Or.inl ⟨by rfl, fun w' hW => by have hq0 := pw_cell_below hW g0; have hq1 := pw_cell_below hW g1; go_simp; try (first | with_reducible rfl | rfl)⟩) hHeld ?_
          try simp only [putL, putN, List.set]
          refine tk (i := 1) (v := _) 15 rfl (yields_blk (by rfl) 28 (.tmp 14) rfl (w.heap.size) _ 122 rfl _ (fun w' hW => obj_below hW HG.out.e0) Tryd.underlying28 rfl (by kernel_rfl)) hHeld ?_
          try simp only [putL, putN, List.set]
          refine tk (i := 5) (v := _) 19 rfl (Or.inl ⟨by rfl, fun w' hW => by have hq0 := pw_cell_below hW g0; have hq1 := pw_cell_below hW g1; go_simp; try (first | with_reducible rfl | rfl)⟩) hHeld ?_
          try simp only [putL, putN, List.set]
          have N0 := Aside0.mk hHeld
          refine wpAnyH_ready (rs := [3]) (by kernel_rfl) (by simp) ?_
          refine AllReadyH.cons rfl (fun K hK => ?_) AllReadyH.nil
          go_simp
          go_wp2_with (first | (go_at_call 103; refine (Credits2_calls C (m : Int) _ (HC.out.below (HG.out.b.trans (N0.out.mono HG.out.b.size))) HL.out).mono ?_; rintro e wa ⟨rfl, hb⟩; rw [HCR.out]; have N1 := Aside0.mk (below_step N0.out hb); clear hb))
          clear hHeld
          refine hK.out _ _ N1.out (fun hHeld => ?_)
          clear hK K
          try simp only [putL, putN, List.set]
          refine tk (i := 6) (v := _) 20 rfl (Or.inl ⟨by rfl, fun w' hW => by have hq0 := pw_cell_below hW g0; have hq1 := pw_cell_below hW g1; go_simp; try (first | with_reducible rfl | rfl)⟩) hHeld ?_
          try simp only [putL, putN, List.set]
          refine wpAnyH_done (by kernel_rfl) ?_ _
          clear hHeld
          go_wp2_with fail
          have HT2 := Aside0.mk (HG.out.below N1.out)
          go_roundw
          case rel => exact ⟨m + 1, by go_num, ⟨HT2.out, by have := H1.out; omega, fun j hj => by
            by_cases e : j = m
            · subst e; unfold okQuo; rw [HCR.out, HGX.out]; exact decide_eq_true H3.out
            · exact hS.out.2.2 j (by omega)⟩⟩
          case measure => simp [intOf]; have := H1.out; omega
        · have d3 : decide (gx.f1 < cr) = true := decide_eq_true (by omega)
          have d3' : decide (cr > gx.f1) = true := d3
          have H3 := Aside0.mk h3
          clear h3
          refine wp_region_held_drew (S := fun w' => Below wg.heap.size wg w') (by kernel_rfl) (pw_below_drewN (Below.refl _ _) 1) (fun hHeld => ?_)
          generalize wg.drew = wd at hHeld ⊢
          refine tk (i := 0) (v := _) 14 rfl (Or.inl ⟨by rfl, fun w' hW => by have hq0 := pw_cell_below hW g0; have hq1 := pw_cell_below hW g1; go_simp; try (first | with_reducible rfl | rfl)⟩) hHeld ?_
          try simp only [putL, putN, List.set]
          refine tk (i := 2) (v := _) 16 rfl (Or.inl ⟨by rfl, fun w' hW => by have hq0 := pw_cell_below hW g0; have hq1 := pw_cell_below hW g1; go_simp; try (first | with_reducible rfl | rfl)⟩) hHeld ?_
          try simp only [putL, putN, List.set]
          refine tk (i := 4) (v := _) 18 rfl (Or.inl ⟨by rfl, fun w' hW => by have hq0 := pw_cell_below hW g0; have hq1 := pw_cell_below hW g1; go_simp; try (first | with_reducible rfl | rfl)⟩) hHeld ?_
          try simp only [putL, putN, List.set]
          refine tk (i := 1) (v := _) 15 rfl (yields_blk (by rfl) 28 (.tmp 14) rfl (w.heap.size) _ 122 rfl _ (fun w' hW => obj_below hW HG.out.e0) Tryd.underlying28 rfl (by kernel_rfl)) hHeld ?_
          try simp only [putL, putN, List.set]
          refine tk (i := 5) (v := _) 19 rfl (Or.inl ⟨by rfl, fun w' hW => by have hq0 := pw_cell_below hW g0; have hq1 := pw_cell_below hW g1; go_simp; try (first | with_reducible rfl | rfl)⟩) hHeld ?_
          try simp only [putL, putN, List.set]
          have N0 := Aside0.mk hHeld
          refine wpAnyH_ready (rs := [3]) (by kernel_rfl) (by simp) ?_
          refine AllReadyH.cons rfl (fun K hK => ?_) AllReadyH.nil
          go_simp
          go_wp2_with (first | (go_at_call 103; refine (Credits2_calls C (m : Int) _ (HC.out.below (HG.out.b.trans (N0.out.mono HG.out.b.size))) HL.out).mono ?_; rintro e wa ⟨rfl, hb⟩; rw [HCR.out]; have N1 := Aside0.mk (below_step N0.out hb); clear hb))
          clear hHeld
          refine hK.out _ _ N1.out (fun hHeld => ?_)
          clear hK K
          try simp only [putL, putN, List.set]
          refine tk (i := 6) (v := _) 20 rfl (Or.inl ⟨by rfl, fun w' hW => by have hq0 := pw_cell_below hW g0; have hq1 := pw_cell_below hW g1; go_simp; try (first | with_reducible rfl | rfl)⟩) hHeld ?_
          try simp only [putL, putN, List.set]
          refine wpAnyH_done (by kernel_rfl) ?_ _
          clear hHeld
          have HT2 := Aside0.mk (HG.out.below N1.out)
          obtain ⟨u0, u1, s0, s1⟩ := HT2.out.r
          go_wp2_with fail
          have hbad : ¬ okQuo C m = true := by unfold okQuo; rw [HCR.out, HGX.out]; exact fun h => absurd (of_decide_eq_true h) (by have := H3.out; omega)
          have eq := HE.out.trans (told_hit (i := m) (by rw [if_neg hbad]; decide) (by have := H1.out; omega) (fun j hj => if_pos (hS.out.2.2 j hj)))
          rw [if_neg hbad] at eq
          simp only [Prod.mk.injEq] at eq
          obtain ⟨rfl, rfl⟩ := eq
          obtain ⟨g0, g1, g2⟩ := HT2.out.fin (m : Int) 45
          generalize ((wa.setCell ⟨w.heap.size + 1, 0, none⟩ (.int .i64 (m : Int))).setCell ⟨w.heap.size + 1, 1, none⟩ (.int .i64 45)) = w3 at g0 g1 g2 ⊢
          exact bodyPost_ret (v := .agg #[.int .i64 (m : Int), .int .i64 45]) (by simp [results, Tryd.results80, go_sem, g1, g2]) rfl ⟨rfl, g0⟩
      · skip
        have e1 : decide ((m : Int) < (C.l1.length : Int)) = false := decide_eq_false h1
        have H1 := Aside0.mk h1
        go_wp2_with fail
        have eq := HE.out.trans (told_none (fun j hj => if_pos (hS.out.2.2 j (by have := H1.out; omega))))
        simp only [Prod.mk.injEq] at eq
        obtain ⟨rfl, rfl⟩ := eq
        obtain ⟨g0, g1, g2⟩ := hS.out.1.fin 0 0
        generalize ((wr.setCell ⟨w.heap.size + 1, 0, none⟩ (.int .i64 0)).setCell ⟨w.heap.size + 1, 1, none⟩ (.int .i64 0)) = w3 at g0 g1 g2 ⊢
        exact bodyPost_ret (v := .agg #[.int .i64 0, .int .i64 0]) (by simp [results, Tryd.results80, go_sem, g1, g2]) rfl ⟨rfl, g0⟩
  exact key _ rfl
end Go.Proofs.YtoliipbmcekciaaDoor.QDd

