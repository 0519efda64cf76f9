/- Texts of this claim, joined: UCDe, XADe. -/
import Derived.Test.YtoliipbmcekciaaDoorZ06
import Derived.Test.YtoliipbmcekciaaDoorZ07
namespace Go.Proofs.YtoliipbmcekciaaDoor.QDd
open Go.RowKit Go.Proofs.YtoliipbmcekciaaDoorW.PrintWords Go.Proofs.YtoliipbmcekciaaDoorW.PrintLast Go.Proofs.YtoliipbmcekciaaDoorW.PrintMore
open Go.Proofs.YtoliipbmcekciaaDoor.QDc (tk putL putN obj_below take_at yields_blk load_blk load_any store_blk blk_setCells setAll far_setCells below_setCells)
set_option linter.unusedVariables false
set_option linter.unusedSimpArgs false
def FraQ (C : Cf) (w : World) (m : Nat) (wr : World) : Prop := TQ C w wr ∧ m ≤ C.l4.length ∧ ∀ j, j < m → okFr C j = true
def FraR (C : Cf) (w : World) (m : Nat) (wr : World) : Prop := TQ C w wr ∧ m ≤ C.l1.length ∧ ∀ j, j < m → inFr C j = true
set_option maxRecDepth 100000 in
set_option maxHeartbeats 2000000 in
theorem frame2_calls (C : Cf) (w : World) (hC : C.At w) (hL : C.Lim) : Calls Tryd.prog 82 #[.agg C.v] w fun e w' => e = .returned (.agg #[.int .i64 (fraF C).1, .int .i64 (fraF C).2]) ∧ Below w.heap.size w w' := by
  have HC := Aside0.mk hC
  have HL := Aside0.mk hL
  clear hC hL
  have key : ∀ q : Int × Int, fraF C = q → Calls Tryd.prog 82 #[.agg C.v] w fun e w' => e = .returned (.agg #[.int .i64 q.1, .int .i64 q.2]) ∧ Below w.heap.size w w' := by
    rintro ⟨qn, qe⟩ hq
    have HQ := Aside0.mk hq
    clear hq
    go_enter Tryd.func82, Tryd.ntmps82
    go_upto_region 1 with fail
    have HT := Aside0.mk (TQ.start C w)
    generalize ((w.alloc (.cells C.v 122)).alloc (.cells #[.int .i64 0, .int .i64 0] 126)) = w2 at HT ⊢
    obtain ⟨z0, z1, f0, f1⟩ := HT.out.r
    obtain ⟨A4, hA4⟩ : ∃ A, C.A4 = A := ⟨_, rfl⟩
    have HA4 := Aside0.mk hA4
    clear hA4
    have x4 := (cq_cell HT.out.e0).2.2.2.2.1
    rw [HA4.out] at x4
    obtain ⟨A1, hA1⟩ : ∃ A, C.A1 = A := ⟨_, rfl⟩
    have HA1 := Aside0.mk hA1
    clear hA1
    have x1 := (cq_cell HT.out.e0).2.1
    rw [HA1.out] at x1
    by_cases h64 : C.l4.length > 64
    · have d1 : decide ((C.l4.length : Int) > 64) = true := decide_eq_true (by omega)
      have d1' : decide (64 < C.l4.length) = true := decide_eq_true h64
      have e : fraF C = (0, 3) := by unfold fraF; exact if_pos h64
      rw [HQ.out] at e
      simp only [Prod.mk.injEq] at e
      obtain ⟨rfl, rfl⟩ := e
      go_wp2_with fail
      obtain ⟨g0, g1, g2⟩ := HT.out.fin 0 3
      generalize ((w2.setCell ⟨w.heap.size + 1, 0, none⟩ (.int .i64 0)).setCell ⟨w.heap.size + 1, 1, none⟩ (.int .i64 3)) = w3 at g0 g1 g2 ⊢
      exact bodyPost_ret (v := .agg #[.int .i64 0, .int .i64 3]) (by simp [results, Tryd.results82, go_sem, g1, g2]) rfl ⟨rfl, g0⟩
    · have d1 : decide ((C.l4.length : Int) > 64) = false := decide_eq_false (by omega)
      have d1' : decide (64 < C.l4.length) = false := decide_eq_false h64
      by_cases h0 : C.l4.length = 0
      · have d2 : ((C.l4.length : Int) == 0) = true := by simpa using h0
        have e : fraF C = (0, 47) := by unfold fraF; rw [if_neg h64, if_pos h0]
        rw [HQ.out] at e
        simp only [Prod.mk.injEq] at e
        obtain ⟨rfl, rfl⟩ := e
        go_wp2_with fail
        obtain ⟨g0, g1, g2⟩ := HT.out.fin 0 47
        generalize ((w2.setCell ⟨w.heap.size + 1, 0, none⟩ (.int .i64 0)).setCell ⟨w.heap.size + 1, 1, none⟩ (.int .i64 47)) = w3 at g0 g1 g2 ⊢
        exact bodyPost_ret (v := .agg #[.int .i64 0, .int .i64 47]) (by simp [results, Tryd.results82, go_sem, g1, g2]) rfl ⟨rfl, g0⟩
      · have d2 : ((C.l4.length : Int) == 0) = false := by simpa using h0
        have e : fraF C = fraG C (scan (fun i => if okFr C i = true then 0 else 47) 0 C.l4.length) := by unfold fraF; rw [if_neg h64, if_neg h0]
        have HE := Aside0.mk (HQ.out.symm.trans e)
        clear e
        have H0 : Aside0 (FraQ C w 0 w2) := ⟨⟨HT.out, Nat.zero_le _, fun j hj => absurd hj (by omega)⟩⟩
        go_wp2_with fail
        go_loopw [4, 5, 23] (fun _ _ i wr => ∃ m : Nat, i = .int .i64 (m : Int) ∧ Aside0 (FraQ C w m wr)) (fun _ _ i _ => C.l4.length - (intOf i).toNat)
        case atStart => exact ⟨0, rfl, H0⟩
        case round =>
          clear H0 HT z0 z1 f0 f1 x4 x1
          obtain ⟨m, rfl, hS⟩ := hrel
          have x4 := (cq_cell hS.out.1.e0).2.2.2.2.1
          rw [HA4.out] at x4
          have x1 := (cq_cell hS.out.1.e0).2.1
          rw [HA1.out] at x1
          obtain ⟨z0, z1, f0, f1⟩ := hS.out.1.r
          have hlim : C.l4.length ≤ 1000 := HL.out.l4
          by_cases h1 : (m : Int) < (C.l4.length : Int)
          · have e1 : decide ((m : Int) < (C.l4.length : Int)) = true := decide_eq_true h1
            have H1 := Aside0.mk h1
            have h00 : (0 : Int) ≤ (m : Int) := by omega
            obtain ⟨ad, eA, y0⟩ := Kd.at_int (HC.out.below hS.out.1.b).r4 (m : Int) h00 h1
            obtain rfl : A4 = some ad := HA4.out.symm.trans eA
            rw [Int.toNat_natCast] at y0
            obtain ⟨el, hel⟩ : ∃ x, rd C.l4 (m : Int) = x := ⟨_, rfl⟩
            rw [hel] at y0
            have HEL := Aside0.mk hel
            clear hel
            obtain ⟨b1, hb1⟩ : ∃ b, isTB C el = b := ⟨_, rfl⟩
            have HB := Aside0.mk hb1
            clear hb1
            cases b1 with
            | false =>
              go_upto_region 10 with (first | ((with_reducible refine gate_ (.load 122 (.tmp 1)) rfl ?_); (try (refine gate_guard (by rfl) ?_; dsimp only)); refine load_blk rfl 122 (.tmp 1) rfl w.heap.size _ 122 rfl _ (hS.out.1.e0) Tryd.underlying122 rfl (by kernel_rfl) ?_) | (go_at_call 104; (with_reducible refine (ten2_calls C el _ HL.out.l1).mono ?_); rintro e wa ⟨rfl, hb⟩; rw [HB.out]; have N1 := Aside0.mk hb; clear hb))
              have HT2 := Aside0.mk (hS.out.1.below N1.out)
              obtain ⟨u0, u1, s0, s1⟩ := HT2.out.r
              go_wp2_with fail
              have hbad : ¬ okFr C m = true := by unfold okFr; rw [HEL.out, HB.out]; decide
              have eq := HE.out
              rw [scan_hit (i := m) (by rw [if_neg hbad]; decide) _ 0 (Nat.zero_le _) (by have := H1.out; omega) (fun j _ hj => if_pos (hS.out.2.2 j hj)), if_neg hbad] at eq
              simp only [fraG, Prod.mk.injEq] at eq
              obtain ⟨rfl, rfl⟩ := eq
              obtain ⟨g0, g1, g2⟩ := HT2.out.fin (m : Int) 47
              generalize ((wa.setCell ⟨w.heap.size + 1, 0, none⟩ (.int .i64 (m : Int))).setCell ⟨w.heap.size + 1, 1, none⟩ (.int .i64 47)) = w3 at g0 g1 g2 ⊢
              exact bodyPost_ret (v := .agg #[.int .i64 (m : Int), .int .i64 47]) (by simp [results, Tryd.results82, go_sem, g1, g2]) rfl ⟨rfl, g0⟩
            | true =>
              go_wp2_with (first | ((with_reducible refine gate_ (.load 122 (.tmp 1)) rfl ?_); (try (refine gate_guard (by rfl) ?_; dsimp only)); refine load_blk rfl 122 (.tmp 1) rfl w.heap.size _ 122 rfl _ (hS.out.1.e0) Tryd.underlying122 rfl (by kernel_rfl) ?_) | (go_at_call 104; (with_reducible refine (ten2_calls C el _ HL.out.l1).mono ?_); rintro e wa ⟨rfl, hb⟩; rw [HB.out]; have N1 := Aside0.mk hb; clear hb))
              have HT2 := Aside0.mk (hS.out.1.below N1.out)
              go_roundw
              case rel =>
                refine ⟨m + 1, by go_num, ⟨HT2.out, by have := H1.out; omega, fun j hj => ?_⟩⟩
                by_cases e : j = m
                · subst e; unfold okFr; rw [HEL.out, HB.out]
                · exact hS.out.2.2 j (by omega)
              case measure => simp [intOf]; have := H1.out; omega
          · have e1 : decide ((m : Int) < (C.l4.length : Int)) = false := decide_eq_false h1
            have hm : m = C.l4.length := by have := hS.out.2.1; omega
            have HM := Aside0.mk hm
            clear hm
            have eq := HE.out
            rw [scan_none _ 0 (fun j _ hj => if_pos (hS.out.2.2 j (by have := HM.out; omega)))] at eq
            have HE2 : Aside0 ((qn, qe) = toldOf (scan (fun t => if inFr C t = true then 0 else 47) 0 C.l1.length)) := ⟨eq⟩
            clear eq
            have J0 : Aside0 (FraR C w 0 wr) := ⟨⟨hS.out.1, Nat.zero_le _, fun j hj => absurd hj (by omega)⟩⟩
            go_wp2_with fail
            go_loopw [6, 39] (fun _ i wr => ∃ k : Nat, i = .int .i64 (k : Int) ∧ Aside0 (FraR C w k wr)) (fun _ i _ => C.l1.length - (intOf i).toNat)
            case atStart => exact ⟨0, rfl, J0⟩
            case round =>
              clear J0 x4 x1 z0 z1 f0 f1
              obtain ⟨k, rfl, hJ⟩ := hrel
              have x4 := (cq_cell hJ.out.1.e0).2.2.2.2.1
              rw [HA4.out] at x4
              obtain ⟨z0, z1, f0, f1⟩ := hJ.out.1.r
              have hlim1 : C.l1.length ≤ 1000 := HL.out.l1
              by_cases h2 : (k : Int) < (C.l1.length : Int)
              · have e2 : decide ((k : Int) < (C.l1.length : Int)) = true := decide_eq_true h2
                have H2 := Aside0.mk h2
                obtain ⟨b1, hb1⟩ : ∃ b, (C.l4.any (· == (k : Int))) = b := ⟨_, rfl⟩
                have HB := Aside0.mk hb1
                have HIN : Aside0 (inFr C k = b1) := ⟨hb1⟩
                clear hb1
                cases b1 with
                | false =>
                  go_wp2_with (go_at_call 105; refine (contains105_calls A4 C.c4 C.l4 (k : Int) _ (by have := HL.out.l4; omega) (by rw [← HA4.out]; exact (HC.out.below hJ.out.1.b).r4)).mono ?_; rintro e wa ⟨rfl, hb⟩; rw [HB.out]; have HT2 := Aside0.mk (hJ.out.1.below hb); have ⟨u0, u1, s0, s1⟩ := HT2.out.r; clear hb)
                  have eq := HE2.out.trans (told_hit (i := k) (by rw [if_neg (by rw [HIN.out]; decide)]; decide) (by have := H2.out; omega) (fun j hj => if_pos (hJ.out.2.2 j hj)))
                  rw [if_neg (by rw [HIN.out]; decide)] at eq
                  simp only [Prod.mk.injEq] at eq
                  obtain ⟨rfl, rfl⟩ := eq
                  obtain ⟨g0, g1, g2⟩ := HT2.out.fin (k : Int) 47
                  generalize ((wa.setCell ⟨w.heap.size + 1, 0, none⟩ (.int .i64 (k : Int))).setCell ⟨w.heap.size + 1, 1, none⟩ (.int .i64 47)) = w3 at g0 g1 g2 ⊢
                  exact bodyPost_ret (v := .agg #[.int .i64 (k : Int), .int .i64 47]) (by simp [results, Tryd.results82, go_sem, g1, g2]) rfl ⟨rfl, g0⟩
                | true =>
                  go_wp2_with (go_at_call 105; refine (contains105_calls A4 C.c4 C.l4 (k : Int) _ (by have := HL.out.l4; omega) (by rw [← HA4.out]; exact (HC.out.below hJ.out.1.b).r4)).mono ?_; rintro e wa ⟨rfl, hb⟩; rw [HB.out]; have HT2 := Aside0.mk (hJ.out.1.below hb); clear hb)
                  go_roundw
                  case rel => exact ⟨k + 1, by go_num, ⟨HT2.out, by have := H2.out; omega, fun j hj => by
                    by_cases e : j = k
                    · subst e; exact HIN.out
                    · exact hJ.out.2.2 j (by omega)⟩⟩
                  case measure => simp [intOf]; have := H2.out; omega
              · have e2 : decide ((k : Int) < (C.l1.length : Int)) = false := decide_eq_false h2
                have H2 := Aside0.mk h2
                go_wp2_with fail
                have eq := HE2.out.trans (told_none (fun j hj => if_pos (hJ.out.2.2 j (by have := H2.out; omega))))
                simp only [Prod.mk.injEq] at eq
                obtain ⟨rfl, rfl⟩ := eq
                obtain ⟨g0, g1, g2⟩ := hJ.out.1.fin 0 0
                generalize ((wr.setCell ⟨w.heap.size + 1, 0, none⟩ (.int .i64 0)).setCell ⟨w.heap.size + 1, 1, none⟩ (.int .i64 0)) = w3 at g0 g1 g2 ⊢
                exact bodyPost_ret (v := .agg #[.int .i64 0, .int .i64 0]) (by simp [results, Tryd.results82, go_sem, g1, g2]) rfl ⟨rfl, g0⟩
  exact key _ rfl
def Tk (C : Cf) : Nat → Int × Int
  | 0 => (0, r02F C.l0)
  | 1 => tenF C
  | 2 => chaF C
  | 3 => quoF C
  | 4 => gatF C
  | 5 => fraF C
  | _ => budF C
theorem nextT_go {t f : Int × Int} (h : t.2 = 0) : nextT t f = f := if_pos h
theorem nextT_stop {t f : Int × Int} (h : t.2 ≠ 0) : nextT t f = t := if_neg h
theorem bud_fst (C : Cf) : (budF C).1 = 0 := by unfold budF; split <;> rfl
theorem chk_all {C : Cf} (h : ∀ j, j < 7 → (Tk C j).2 = 0) : chkF C = (0, 0) := by
  have h0 := h 0 (by decide)
  have h1 := h 1 (by decide)
  have h2 := h 2 (by decide)
  have h3 := h 3 (by decide)
  have h4 := h 4 (by decide)
  have h5 := h 5 (by decide)
  have h6 := h 6 (by decide)
  simp only [Tk] at h0 h1 h2 h3 h4 h5 h6
  unfold chkF chkT
  rw [if_pos h0, nextT_go h1, nextT_go h2, nextT_go h3, nextT_go h4, nextT_go h5]
  exact Prod.ext (bud_fst C) h6
theorem chk_at {C : Cf} {k : Nat} (hk : k < 7) (h : ∀ j, j < k → (Tk C j).2 = 0) (hn : (Tk C k).2 ≠ 0) : chkF C = Tk C k := by
  unfold chkF
  rcases k with _ | k
  · simp only [Tk] at hn ⊢
    exact if_neg hn
  rw [if_pos (show r02F C.l0 = 0 from h 0 (by omega))]
  unfold chkT
  rcases k with _ | _ | _ | _ | _ | _ | k
  · simp only [Tk] at hn ⊢
    rw [nextT_stop (t := tenF C) hn, nextT_stop (t := tenF C) hn, nextT_stop (t := tenF C) hn, nextT_stop (t := tenF C) hn, nextT_stop (t := tenF C) hn]
  · have h1 : (tenF C).2 = 0 := h 1 (by omega)
    simp only [Tk] at hn ⊢
    rw [nextT_go h1, nextT_stop (t := chaF C) hn, nextT_stop (t := chaF C) hn, nextT_stop (t := chaF C) hn, nextT_stop (t := chaF C) hn]
  · have h1 : (tenF C).2 = 0 := h 1 (by omega)
    have h2 : (chaF C).2 = 0 := h 2 (by omega)
    simp only [Tk] at hn ⊢
    rw [nextT_go h1, nextT_go h2, nextT_stop (t := quoF C) hn, nextT_stop (t := quoF C) hn, nextT_stop (t := quoF C) hn]
  · have h1 : (tenF C).2 = 0 := h 1 (by omega)
    have h2 : (chaF C).2 = 0 := h 2 (by omega)
    have h3 : (quoF C).2 = 0 := h 3 (by omega)
    simp only [Tk] at hn ⊢
    rw [nextT_go h1, nextT_go h2, nextT_go h3, nextT_stop (t := gatF C) hn, nextT_stop (t := gatF C) hn]
  · have h1 : (tenF C).2 = 0 := h 1 (by omega)
    have h2 : (chaF C).2 = 0 := h 2 (by omega)
    have h3 : (quoF C).2 = 0 := h 3 (by omega)
    have h4 : (gatF C).2 = 0 := h 4 (by omega)
    simp only [Tk] at hn ⊢
    rw [nextT_go h1, nextT_go h2, nextT_go h3, nextT_go h4, nextT_stop (t := fraF C) hn]
  · have h1 : (tenF C).2 = 0 := h 1 (by omega)
    have h2 : (chaF C).2 = 0 := h 2 (by omega)
    have h3 : (quoF C).2 = 0 := h 3 (by omega)
    have h4 : (gatF C).2 = 0 := h 4 (by omega)
    have h5 : (fraF C).2 = 0 := h 5 (by omega)
    simp only [Tk] at hn ⊢
    rw [nextT_go h1, nextT_go h2, nextT_go h3, nextT_go h4, nextT_go h5]
  · omega
theorem r02_len {l : List Int} (h : r02F l = 0) : l.length ≤ 16 := by
  by_cases h1 : l.length > 16
  · unfold r02F at h
    rw [if_pos h1] at h
    exact absurd h (by decide)
  · omega
def ChkI (C : Cf) (w : World) (g k : Nat) (wr : World) : Prop := Below w.heap.size w wr ∧ wr.heap[g]? = some (.cells #[.func (.func 77) #[.agg C.v] #[], .func (.func 78) #[.agg C.v] #[], .func (.func 79) #[.agg C.v] #[], .func (.func 80) #[.agg C.v] #[], .func (.func 81) #[.agg C.v] #[], .func (.func 82) #[.agg C.v] #[], .func (.func 83) #[.agg C.v] #[]] 123 (0, 0)) ∧ k ≤ 7 ∧ ∀ j, j < k → (Tk C j).2 = 0
set_option maxRecDepth 100000 in
set_option maxHeartbeats 2000000 in
theorem confCheck_of (C : Cf) (w : World) (hC : C.At w) (hL : C.Lim) (hlab : ∀ w', C.At w' → Calls Tryd.prog 77 #[.agg C.v] w' fun e w2 => e = .returned (.agg #[.int .i64 0, .int .i64 (r02F C.l0)]) ∧ Below w'.heap.size w' w2) : Calls Tryd.prog 57 #[.agg C.v] w fun e w' => e = .returned (.tuple #[.int .i64 (chkF C).1, .int .i64 (chkF C).2]) ∧ Below w.heap.size w w' := by
  have HC := Aside0.mk hC
  have HL := Aside0.mk hL
  have HLAB := Aside0.mk hlab
  clear hC hL hlab
  have key : ∀ q : Int × Int, chkF C = q → Calls Tryd.prog 57 #[.agg C.v] w fun e w' => e = .returned (.tuple #[.int .i64 q.1, .int .i64 q.2]) ∧ Below w.heap.size w w' := by
    rintro ⟨qn, qe⟩ hq
    have HQ := Aside0.mk hq
    clear hq
    go_enter Tryd.func57, Tryd.ntmps57
    go_upto_region 1 with fail
    have HO := Aside0.mk (OB.start C w)
    generalize w.alloc (.cells C.v 28) = w2 at HO ⊢
    go_upto_region 2 with (first | ((with_reducible refine gate_ (.load 28 (.tmp 1)) rfl ?_); refine load_blk rfl 28 (.tmp 1) rfl w.heap.size _ 28 rfl _ HO.out.e0 Tryd.underlying28 rfl (by kernel_rfl) ?_))
    have HE6 : Aside0 ((w2.alloc (.cells C.v 122)).heap[w2.heap.size]? = some (.cells C.v 122 (0, 0))) := ⟨World.alloc_heap_new _ _⟩
    have HB6 : Aside0 (Below w.heap.size w (w2.alloc (.cells C.v 122))) := ⟨HO.out.b.alloc HO.out.b.size _⟩
    generalize w2.alloc (.cells C.v 122) = w6 at HE6 HB6 ⊢
    go_upto_region 3 with (first | ((with_reducible refine gate_ (.load 122 (.tmp 4)) rfl ?_); refine load_blk rfl 122 (.tmp 4) rfl w2.heap.size C.v 122 rfl _ HE6.out Tryd.underlying122 rfl (by kernel_rfl) ?_))
    have H0 : Aside0 (ChkI C w w6.heap.size 0 (w6.alloc (.cells #[.func (.func 77) #[.agg C.v] #[], .func (.func 78) #[.agg C.v] #[], .func (.func 79) #[.agg C.v] #[], .func (.func 80) #[.agg C.v] #[], .func (.func 81) #[.agg C.v] #[], .func (.func 82) #[.agg C.v] #[], .func (.func 83) #[.agg C.v] #[]] 123))) := ⟨⟨HB6.out.alloc HB6.out.size _, World.alloc_heap_new _ _, by decide, fun j hj => absurd hj (by omega)⟩⟩
    generalize (w6.alloc (.cells #[.func (.func 77) #[.agg C.v] #[], .func (.func 78) #[.agg C.v] #[], .func (.func 79) #[.agg C.v] #[], .func (.func 80) #[.agg C.v] #[], .func (.func 81) #[.agg C.v] #[], .func (.func 82) #[.agg C.v] #[], .func (.func 83) #[.agg C.v] #[]] 123)) = w7 at H0 ⊢
    generalize w6.heap.size = g at H0 ⊢
    go_loopw [6, 7, 26] (fun _ _ i wr => ∃ k : Nat, i = .int .i64 (k : Int) ∧ Aside0 (ChkI C w g k wr)) (fun _ _ i _ => 7 - (intOf i).toNat)
    case atStart => exact ⟨0, rfl, H0⟩
    case round =>
      clear H0
      obtain ⟨k, rfl, hS⟩ := hrel
      have hk : k = 0 ∨ k = 1 ∨ k = 2 ∨ k = 3 ∨ k = 4 ∨ k = 5 ∨ k = 6 ∨ k = 7 := by have := hS.out.2.2.1; omega
      rcases hk with rfl | rfl | rfl | rfl | rfl | rfl | rfl | rfl
      · skip
        have ck : wr.cell? ⟨g, 0, none⟩ = some (.func (.func 77) #[.agg C.v] #[]) := by simp [World.cell?, hS.out.2.1]
        obtain ⟨te, ht⟩ : ∃ q, r02F C.l0 = q := ⟨_, rfl⟩
        obtain ⟨tn, htn⟩ : ∃ q : Int, q = 0 := ⟨_, rfl⟩
        have HT := Aside0.mk ht
        have HTK : Aside0 (Tk C 0 = (0, te)) := ⟨by show (0, r02F C.l0) = _; rw [ht]⟩
        subst htn
        clear ht
        by_cases hz : te = 0
        · have d : (te != 0) = false := by simpa using hz
          have d' : decide (te = 0) = true := decide_eq_true hz
          have HZ := Aside0.mk hz
          clear hz
          go_upto_region 6 with (first | (go_at_call 77; refine (HLAB.out _ (HC.out.below hS.out.1)).mono ?_; rintro e wz ⟨rfl, hb⟩; rw [HT.out]; have NZ := Aside0.mk hb; clear hb))
          have HBA : Aside0 (Below wr.heap.size wr (wz.alloc (.cells #[.int .i64 0, .int .i64 te] 126))) := ⟨NZ.out.alloc NZ.out.size _⟩
          have HEA := Aside0.mk (World.alloc_heap_new wz (.cells #[.int .i64 0, .int .i64 te] 126))
          generalize (wz.alloc (.cells #[.int .i64 0, .int .i64 te] 126)) = ws at HBA HEA ⊢
          have u0 : ws.cell? ⟨wz.heap.size, 0, none⟩ = some (.int .i64 0) := by simp [World.cell?, HEA.out]
          have u1 : ws.cell? ⟨wz.heap.size, 1, none⟩ = some (.int .i64 te) := by simp [World.cell?, HEA.out]
          go_wp2_with fail
          go_roundw
          case rel => exact ⟨1, by go_num, ⟨hS.out.1.trans (HBA.out.mono hS.out.1.size), obj_below HBA.out hS.out.2.1, by decide, fun j hj => by
            by_cases e : j = 0
            · subst e; rw [HTK.out]; exact HZ.out
            · exact hS.out.2.2.2 j (by omega)⟩⟩
          case measure => simp [intOf]
        · have d : (te != 0) = true := by simpa using hz
          have d' : decide (te = 0) = false := decide_eq_false hz
          have eq := HQ.out.symm.trans ((chk_at (C := C) (k := 0) (by decide) hS.out.2.2.2 (by rw [HTK.out]; exact hz)).trans HTK.out)
          simp only [Prod.mk.injEq] at eq
          clear hz
          go_upto_region 6 with (first | (go_at_call 77; refine (HLAB.out _ (HC.out.below hS.out.1)).mono ?_; rintro e wz ⟨rfl, hb⟩; rw [HT.out]; have NZ := Aside0.mk hb; clear hb))
          have HBA : Aside0 (Below wr.heap.size wr (wz.alloc (.cells #[.int .i64 0, .int .i64 te] 126))) := ⟨NZ.out.alloc NZ.out.size _⟩
          have HEA := Aside0.mk (World.alloc_heap_new wz (.cells #[.int .i64 0, .int .i64 te] 126))
          generalize (wz.alloc (.cells #[.int .i64 0, .int .i64 te] 126)) = ws at HBA HEA ⊢
          have u0 : ws.cell? ⟨wz.heap.size, 0, none⟩ = some (.int .i64 0) := by simp [World.cell?, HEA.out]
          have u1 : ws.cell? ⟨wz.heap.size, 1, none⟩ = some (.int .i64 te) := by simp [World.cell?, HEA.out]
          go_wp2_with fail
          go_quiet (fail)
          go_wp2
          go_ret2
          exact ⟨by rw [eq.1, eq.2]; rfl, pw_below_drewN (hS.out.1.trans (HBA.out.mono hS.out.1.size)) _⟩
      · skip
        have ck : wr.cell? ⟨g, 1, none⟩ = some (.func (.func 78) #[.agg C.v] #[]) := by simp [World.cell?, hS.out.2.1]
        obtain ⟨⟨tn, te⟩, ht⟩ : ∃ q, tenF C = q := ⟨_, rfl⟩
        have HT := Aside0.mk ht
        have HTK : Aside0 (Tk C 1 = (tn, te)) := ⟨ht⟩
        clear ht
        by_cases hz : te = 0
        · have d : (te != 0) = false := by simpa using hz
          have d' : decide (te = 0) = true := decide_eq_true hz
          have HZ := Aside0.mk hz
          clear hz
          go_upto_region 6 with (first | (go_at_call 78; refine (tenants2_calls C _ (HC.out.below hS.out.1) HL.out).mono ?_; rintro e wz ⟨rfl, hb⟩; rw [HT.out]; have NZ := Aside0.mk hb; clear hb))
          have HBA : Aside0 (Below wr.heap.size wr (wz.alloc (.cells #[.int .i64 tn, .int .i64 te] 126))) := ⟨NZ.out.alloc NZ.out.size _⟩
          have HEA := Aside0.mk (World.alloc_heap_new wz (.cells #[.int .i64 tn, .int .i64 te] 126))
          generalize (wz.alloc (.cells #[.int .i64 tn, .int .i64 te] 126)) = ws at HBA HEA ⊢
          have u0 : ws.cell? ⟨wz.heap.size, 0, none⟩ = some (.int .i64 tn) := by simp [World.cell?, HEA.out]
          have u1 : ws.cell? ⟨wz.heap.size, 1, none⟩ = some (.int .i64 te) := by simp [World.cell?, HEA.out]
          go_wp2_with fail
          go_roundw
          case rel => exact ⟨2, by go_num, ⟨hS.out.1.trans (HBA.out.mono hS.out.1.size), obj_below HBA.out hS.out.2.1, by decide, fun j hj => by
            by_cases e : j = 1
            · subst e; rw [HTK.out]; exact HZ.out
            · exact hS.out.2.2.2 j (by omega)⟩⟩
          case measure => simp [intOf]
        · have d : (te != 0) = true := by simpa using hz
          have d' : decide (te = 0) = false := decide_eq_false hz
          have eq := HQ.out.symm.trans ((chk_at (C := C) (k := 1) (by decide) hS.out.2.2.2 (by rw [HTK.out]; exact hz)).trans HTK.out)
          simp only [Prod.mk.injEq] at eq
          clear hz
          go_upto_region 6 with (first | (go_at_call 78; refine (tenants2_calls C _ (HC.out.below hS.out.1) HL.out).mono ?_; rintro e wz ⟨rfl, hb⟩; rw [HT.out]; have NZ := Aside0.mk hb; clear hb))
          have HBA : Aside0 (Below wr.heap.size wr (wz.alloc (.cells #[.int .i64 tn, .int .i64 te] 126))) := ⟨NZ.out.alloc NZ.out.size _⟩
          have HEA := Aside0.mk (World.alloc_heap_new wz (.cells #[.int .i64 tn, .int .i64 te] 126))
          generalize (wz.alloc (.cells #[.int .i64 tn, .int .i64 te] 126)) = ws at HBA HEA ⊢
          have u0 : ws.cell? ⟨wz.heap.size, 0, none⟩ = some (.int .i64 tn) := by simp [World.cell?, HEA.out]
          have u1 : ws.cell? ⟨wz.heap.size, 1, none⟩ = some (.int .i64 te) := by simp [World.cell?, HEA.out]
          go_wp2_with fail
          go_quiet (fail)
          go_wp2
          go_ret2
          exact ⟨by rw [eq.1, eq.2]; rfl, pw_below_drewN (hS.out.1.trans (HBA.out.mono hS.out.1.size)) _⟩
      · skip
        have ck : wr.cell? ⟨g, 2, none⟩ = some (.func (.func 79) #[.agg C.v] #[]) := by simp [World.cell?, hS.out.2.1]
        obtain ⟨⟨tn, te⟩, ht⟩ : ∃ q, chaF C = q := ⟨_, rfl⟩
        have HT := Aside0.mk ht
        have HTK : Aside0 (Tk C 2 = (tn, te)) := ⟨ht⟩
        clear ht
        have HTO : Aside0 (TenOK C) := ⟨(tenF_ok (hS.out.2.2.2 1 (by decide))).1⟩
        have HL16 : Aside0 (C.l0.length ≤ 16) := ⟨r02_len (hS.out.2.2.2 0 (by decide))⟩
        by_cases hz : te = 0
        · have d : (te != 0) = false := by simpa using hz
          have d' : decide (te = 0) = true := decide_eq_true hz
          have HZ := Aside0.mk hz
          clear hz
          go_upto_region 6 with (first | (go_at_call 79; refine (channels2_calls C _ (HC.out.below hS.out.1) HL.out HTO.out HL16.out).mono ?_; rintro e wz ⟨rfl, hb⟩; rw [HT.out]; have NZ := Aside0.mk hb; clear hb))
          have HBA : Aside0 (Below wr.heap.size wr (wz.alloc (.cells #[.int .i64 tn, .int .i64 te] 126))) := ⟨NZ.out.alloc NZ.out.size _⟩
          have HEA := Aside0.mk (World.alloc_heap_new wz (.cells #[.int .i64 tn, .int .i64 te] 126))
          generalize (wz.alloc (.cells #[.int .i64 tn, .int .i64 te] 126)) = ws at HBA HEA ⊢
          have u0 : ws.cell? ⟨wz.heap.size, 0, none⟩ = some (.int .i64 tn) := by simp [World.cell?, HEA.out]
          have u1 : ws.cell? ⟨wz.heap.size, 1, none⟩ = some (.int .i64 te) := by simp [World.cell?, HEA.out]
          go_wp2_with fail
          go_roundw
          case rel => exact ⟨3, by go_num, ⟨hS.out.1.trans (HBA.out.mono hS.out.1.size), obj_below HBA.out hS.out.2.1, by decide, fun j hj => by
            by_cases e : j = 2
            · subst e; rw [HTK.out]; exact HZ.out
            · exact hS.out.2.2.2 j (by omega)⟩⟩
          case measure => simp [intOf]
        · have d : (te != 0) = true := by simpa using hz
          have d' : decide (te = 0) = false := decide_eq_false hz
          have eq := HQ.out.symm.trans ((chk_at (C := C) (k := 2) (by decide) hS.out.2.2.2 (by rw [HTK.out]; exact hz)).trans HTK.out)
          simp only [Prod.mk.injEq] at eq
          clear hz
          go_upto_region 6 with (first | (go_at_call 79; refine (channels2_calls C _ (HC.out.below hS.out.1) HL.out HTO.out HL16.out).mono ?_; rintro e wz ⟨rfl, hb⟩; rw [HT.out]; have NZ := Aside0.mk hb; clear hb))
          have HBA : Aside0 (Below wr.heap.size wr (wz.alloc (.cells #[.int .i64 tn, .int .i64 te] 126))) := ⟨NZ.out.alloc NZ.out.size _⟩
          have HEA := Aside0.mk (World.alloc_heap_new wz (.cells #[.int .i64 tn, .int .i64 te] 126))
          generalize (wz.alloc (.cells #[.int .i64 tn, .int .i64 te] 126)) = ws at HBA HEA ⊢
          have u0 : ws.cell? ⟨wz.heap.size, 0, none⟩ = some (.int .i64 tn) := by simp [World.cell?, HEA.out]
          have u1 : ws.cell? ⟨wz.heap.size, 1, none⟩ = some (.int .i64 te) := by simp [World.cell?, HEA.out]
          go_wp2_with fail
          go_quiet (fail)
          go_wp2
          go_ret2
          exact ⟨by rw [eq.1, eq.2]; rfl, pw_below_drewN (hS.out.1.trans (HBA.out.mono hS.out.1.size)) _⟩
      · skip
        have ck : wr.cell? ⟨g, 3, none⟩ = some (.func (.func 80) #[.agg C.v] #[]) := by simp [World.cell?, hS.out.2.1]
        obtain ⟨⟨tn, te⟩, ht⟩ : ∃ q, quoF C = q := ⟨_, rfl⟩
        have HT := Aside0.mk ht
        have HTK : Aside0 (Tk C 3 = (tn, te)) := ⟨ht⟩
        clear ht
        by_cases hz : te = 0
        · have d : (te != 0) = false := by simpa using hz
          have d' : decide (te = 0) = true := decide_eq_true hz
          have HZ := Aside0.mk hz
          clear hz
          go_upto_region 6 with (first | (go_at_call 80; refine (quotas2_calls C _ (HC.out.below hS.out.1) HL.out).mono ?_; rintro e wz ⟨rfl, hb⟩; rw [HT.out]; have NZ := Aside0.mk hb; clear hb))
          have HBA : Aside0 (Below wr.heap.size wr (wz.alloc (.cells #[.int .i64 tn, .int .i64 te] 126))) := ⟨NZ.out.alloc NZ.out.size _⟩
          have HEA := Aside0.mk (World.alloc_heap_new wz (.cells #[.int .i64 tn, .int .i64 te] 126))
          generalize (wz.alloc (.cells #[.int .i64 tn, .int .i64 te] 126)) = ws at HBA HEA ⊢
          have u0 : ws.cell? ⟨wz.heap.size, 0, none⟩ = some (.int .i64 tn) := by simp [World.cell?, HEA.out]
          have u1 : ws.cell? ⟨wz.heap.size, 1, none⟩ = some (.int .i64 te) := by simp [World.cell?, HEA.out]
          go_wp2_with fail
          go_roundw
          case rel => exact ⟨4, by go_num, ⟨hS.out.1.trans (HBA.out.mono hS.out.1.size), obj_below HBA.out hS.out.2.1, by decide, fun j hj => by
            by_cases e : j = 3
            · subst e; rw [HTK.out]; exact HZ.out
            · exact hS.out.2.2.2 j (by omega)⟩⟩
          case measure => simp [intOf]
        · have d : (te != 0) = true := by simpa using hz
          have d' : decide (te = 0) = false := decide_eq_false hz
          have eq := HQ.out.symm.trans ((chk_at (C := C) (k := 3) (by decide) hS.out.2.2.2 (by rw [HTK.out]; exact hz)).trans HTK.out)
          simp only [Prod.mk.injEq] at eq
          clear hz
          go_upto_region 6 with (first | (go_at_call 80; refine (quotas2_calls C _ (HC.out.below hS.out.1) HL.out).mono ?_; rintro e wz ⟨rfl, hb⟩; rw [HT.out]; have NZ := Aside0.mk hb; clear hb))
          have HBA : Aside0 (Below wr.heap.size wr (wz.alloc (.cells #[.int .i64 tn, .int .i64 te] 126))) := ⟨NZ.out.alloc NZ.out.size _⟩
          have HEA := Aside0.mk (World.alloc_heap_new wz (.cells #[.int .i64 tn, .int .i64 te] 126))
          generalize (wz.alloc (.cells #[.int .i64 tn, .int .i64 te] 126)) = ws at HBA HEA ⊢
          have u0 : ws.cell? ⟨wz.heap.size, 0, none⟩ = some (.int .i64 tn) := by simp [World.cell?, HEA.out]
          have u1 : ws.cell? ⟨wz.heap.size, 1, none⟩ = some (.int .i64 te) := by simp [World.cell?, HEA.out]
          go_wp2_with fail
          go_quiet (fail)
          go_wp2
          go_ret2
          exact ⟨by rw [eq.1, eq.2]; rfl, pw_below_drewN (hS.out.1.trans (HBA.out.mono hS.out.1.size)) _⟩
      · skip
        have ck : wr.cell? ⟨g, 4, none⟩ = some (.func (.func 81) #[.agg C.v] #[]) := by simp [World.cell?, hS.out.2.1]
        obtain ⟨⟨tn, te⟩, ht⟩ : ∃ q, gatF C = q := ⟨_, rfl⟩
        have HT := Aside0.mk ht
        have HTK : Aside0 (Tk C 4 = (tn, te)) := ⟨ht⟩
        clear ht
        by_cases hz : te = 0
        · have d : (te != 0) = false := by simpa using hz
          have d' : decide (te = 0) = true := decide_eq_true hz
          have HZ := Aside0.mk hz
          clear hz
          go_upto_region 6 with (first | (go_at_call 81; refine (gates2_calls C _ (HC.out.below hS.out.1) HL.out).mono ?_; rintro e wz ⟨rfl, hb⟩; rw [HT.out]; have NZ := Aside0.mk hb; clear hb))
          have HBA : Aside0 (Below wr.heap.size wr (wz.alloc (.cells #[.int .i64 tn, .int .i64 te] 126))) := ⟨NZ.out.alloc NZ.out.size _⟩
          have HEA := Aside0.mk (World.alloc_heap_new wz (.cells #[.int .i64 tn, .int .i64 te] 126))
          generalize (wz.alloc (.cells #[.int .i64 tn, .int .i64 te] 126)) = ws at HBA HEA ⊢
          have u0 : ws.cell? ⟨wz.heap.size, 0, none⟩ = some (.int .i64 tn) := by simp [World.cell?, HEA.out]
          have u1 : ws.cell? ⟨wz.heap.size, 1, none⟩ = some (.int .i64 te) := by simp [World.cell?, HEA.out]
          go_wp2_with fail
          go_roundw
          case rel => exact ⟨5, by go_num, ⟨hS.out.1.trans (HBA.out.mono hS.out.1.size), obj_below HBA.out hS.out.2.1, by decide, fun j hj => by
            by_cases e : j = 4
            · subst e; rw [HTK.out]; exact HZ.out
            · exact hS.out.2.2.2 j (by omega)⟩⟩
          case measure => simp [intOf]
        · have d : (te != 0) = true := by simpa using hz
          have d' : decide (te = 0) = false := decide_eq_false hz
          have eq := HQ.out.symm.trans ((chk_at (C := C) (k := 4) (by decide) hS.out.2.2.2 (by rw [HTK.out]; exact hz)).trans HTK.out)
          simp only [Prod.mk.injEq] at eq
          clear hz
          go_upto_region 6 with (first | (go_at_call 81; refine (gates2_calls C _ (HC.out.below hS.out.1) HL.out).mono ?_; rintro e wz ⟨rfl, hb⟩; rw [HT.out]; have NZ := Aside0.mk hb; clear hb))
          have HBA : Aside0 (Below wr.heap.size wr (wz.alloc (.cells #[.int .i64 tn, .int .i64 te] 126))) := ⟨NZ.out.alloc NZ.out.size _⟩
          have HEA := Aside0.mk (World.alloc_heap_new wz (.cells #[.int .i64 tn, .int .i64 te] 126))
          generalize (wz.alloc (.cells #[.int .i64 tn, .int .i64 te] 126)) = ws at HBA HEA ⊢
          have u0 : ws.cell? ⟨wz.heap.size, 0, none⟩ = some (.int .i64 tn) := by simp [World.cell?, HEA.out]
          have u1 : ws.cell? ⟨wz.heap.size, 1, none⟩ = some (.int .i64 te) := by simp [World.cell?, HEA.out]
          go_wp2_with fail
          go_quiet (fail)
          go_wp2
          go_ret2
          exact ⟨by rw [eq.1, eq.2]; rfl, pw_below_drewN (hS.out.1.trans (HBA.out.mono hS.out.1.size)) _⟩
      · skip
        have ck : wr.cell? ⟨g, 5, none⟩ = some (.func (.func 82) #[.agg C.v] #[]) := by simp [World.cell?, hS.out.2.1]
        obtain ⟨⟨tn, te⟩, ht⟩ : ∃ q, fraF C = q := ⟨_, rfl⟩
        have HT := Aside0.mk ht
        have HTK : Aside0 (Tk C 5 = (tn, te)) := ⟨ht⟩
        clear ht
        by_cases hz : te = 0
        · have d : (te != 0) = false := by simpa using hz
          have d' : decide (te = 0) = true := decide_eq_true hz
          have HZ := Aside0.mk hz
          clear hz
          go_upto_region 6 with (first | (go_at_call 82; refine (frame2_calls C _ (HC.out.below hS.out.1) HL.out).mono ?_; rintro e wz ⟨rfl, hb⟩; rw [HT.out]; have NZ := Aside0.mk hb; clear hb))
          have HBA : Aside0 (Below wr.heap.size wr (wz.alloc (.cells #[.int .i64 tn, .int .i64 te] 126))) := ⟨NZ.out.alloc NZ.out.size _⟩
          have HEA := Aside0.mk (World.alloc_heap_new wz (.cells #[.int .i64 tn, .int .i64 te] 126))
          generalize (wz.alloc (.cells #[.int .i64 tn, .int .i64 te] 126)) = ws at HBA HEA ⊢
          have u0 : ws.cell? ⟨wz.heap.size, 0, none⟩ = some (.int .i64 tn) := by simp [World.cell?, HEA.out]
          have u1 : ws.cell? ⟨wz.heap.size, 1, none⟩ = some (.int .i64 te) := by simp [World.cell?, HEA.out]
          go_wp2_with fail
          go_roundw
          case rel => exact ⟨6, by go_num, ⟨hS.out.1.trans (HBA.out.mono hS.out.1.size), obj_below HBA.out hS.out.2.1, by decide, fun j hj => by
            by_cases e : j = 5
            · subst e; rw [HTK.out]; exact HZ.out
            · exact hS.out.2.2.2 j (by omega)⟩⟩
          case measure => simp [intOf]
        · have d : (te != 0) = true := by simpa using hz
          have d' : decide (te = 0) = false := decide_eq_false hz
          have eq := HQ.out.symm.trans ((chk_at (C := C) (k := 5) (by decide) hS.out.2.2.2 (by rw [HTK.out]; exact hz)).trans HTK.out)
          simp only [Prod.mk.injEq] at eq
          clear hz
          go_upto_region 6 with (first | (go_at_call 82; refine (frame2_calls C _ (HC.out.below hS.out.1) HL.out).mono ?_; rintro e wz ⟨rfl, hb⟩; rw [HT.out]; have NZ := Aside0.mk hb; clear hb))
          have HBA : Aside0 (Below wr.heap.size wr (wz.alloc (.cells #[.int .i64 tn, .int .i64 te] 126))) := ⟨NZ.out.alloc NZ.out.size _⟩
          have HEA := Aside0.mk (World.alloc_heap_new wz (.cells #[.int .i64 tn, .int .i64 te] 126))
          generalize (wz.alloc (.cells #[.int .i64 tn, .int .i64 te] 126)) = ws at HBA HEA ⊢
          have u0 : ws.cell? ⟨wz.heap.size, 0, none⟩ = some (.int .i64 tn) := by simp [World.cell?, HEA.out]
          have u1 : ws.cell? ⟨wz.heap.size, 1, none⟩ = some (.int .i64 te) := by simp [World.cell?, HEA.out]
          go_wp2_with fail
          go_quiet (fail)
          go_wp2
          go_ret2
          exact ⟨by rw [eq.1, eq.2]; rfl, pw_below_drewN (hS.out.1.trans (HBA.out.mono hS.out.1.size)) _⟩
      · skip
        have ck : wr.cell? ⟨g, 6, none⟩ = some (.func (.func 83) #[.agg C.v] #[]) := by simp [World.cell?, hS.out.2.1]
        obtain ⟨⟨tn, te⟩, ht⟩ : ∃ q, budF C = q := ⟨_, rfl⟩
        have HT := Aside0.mk ht
        have HTK : Aside0 (Tk C 6 = (tn, te)) := ⟨ht⟩
        clear ht
        by_cases hz : te = 0
        · have d : (te != 0) = false := by simpa using hz
          have d' : decide (te = 0) = true := decide_eq_true hz
          have HZ := Aside0.mk hz
          clear hz
          go_upto_region 6 with (first | (go_at_call 83; refine (budget2_calls C _ (HC.out.below hS.out.1) HL.out).mono ?_; rintro e wz ⟨rfl, hb⟩; rw [HT.out]; have NZ := Aside0.mk hb; clear hb))
          have HBA : Aside0 (Below wr.heap.size wr (wz.alloc (.cells #[.int .i64 tn, .int .i64 te] 126))) := ⟨NZ.out.alloc NZ.out.size _⟩
          have HEA := Aside0.mk (World.alloc_heap_new wz (.cells #[.int .i64 tn, .int .i64 te] 126))
          generalize (wz.alloc (.cells #[.int .i64 tn, .int .i64 te] 126)) = ws at HBA HEA ⊢
          have u0 : ws.cell? ⟨wz.heap.size, 0, none⟩ = some (.int .i64 tn) := by simp [World.cell?, HEA.out]
          have u1 : ws.cell? ⟨wz.heap.size, 1, none⟩ = some (.int .i64 te) := by simp [World.cell?, HEA.out]
          go_wp2_with fail
          go_roundw
          case rel => exact ⟨7, by go_num, ⟨hS.out.1.trans (HBA.out.mono hS.out.1.size), obj_below HBA.out hS.out.2.1, by decide, fun j hj => by
            by_cases e : j = 6
            · subst e; rw [HTK.out]; exact HZ.out
            · exact hS.out.2.2.2 j (by omega)⟩⟩
          case measure => simp [intOf]
        · have d : (te != 0) = true := by simpa using hz
          have d' : decide (te = 0) = false := decide_eq_false hz
          have eq := HQ.out.symm.trans ((chk_at (C := C) (k := 6) (by decide) hS.out.2.2.2 (by rw [HTK.out]; exact hz)).trans HTK.out)
          simp only [Prod.mk.injEq] at eq
          clear hz
          go_upto_region 6 with (first | (go_at_call 83; refine (budget2_calls C _ (HC.out.below hS.out.1) HL.out).mono ?_; rintro e wz ⟨rfl, hb⟩; rw [HT.out]; have NZ := Aside0.mk hb; clear hb))
          have HBA : Aside0 (Below wr.heap.size wr (wz.alloc (.cells #[.int .i64 tn, .int .i64 te] 126))) := ⟨NZ.out.alloc NZ.out.size _⟩
          have HEA := Aside0.mk (World.alloc_heap_new wz (.cells #[.int .i64 tn, .int .i64 te] 126))
          generalize (wz.alloc (.cells #[.int .i64 tn, .int .i64 te] 126)) = ws at HBA HEA ⊢
          have u0 : ws.cell? ⟨wz.heap.size, 0, none⟩ = some (.int .i64 tn) := by simp [World.cell?, HEA.out]
          have u1 : ws.cell? ⟨wz.heap.size, 1, none⟩ = some (.int .i64 te) := by simp [World.cell?, HEA.out]
          go_wp2_with fail
          go_quiet (fail)
          go_wp2
          go_ret2
          exact ⟨by rw [eq.1, eq.2]; rfl, pw_below_drewN (hS.out.1.trans (HBA.out.mono hS.out.1.size)) _⟩
      · have eq := HQ.out.symm.trans (chk_all (C := C) hS.out.2.2.2)
        simp only [Prod.mk.injEq] at eq
        go_wp2_with fail
        go_ret2
        exact ⟨by rw [eq.1, eq.2]; rfl, hS.out.1⟩
  exact key _ rfl
end Go.Proofs.YtoliipbmcekciaaDoor.QDd

