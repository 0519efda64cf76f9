/- Texts of this claim, joined: UEDe, UFDe, UGDe. -/
import Derived.Test.YtoliipbmcekciaaDoorZ06
namespace Go.Proofs.YtoliipbmcekciaaDoor.QDd
open Go.RowKit Go.Proofs.YtoliipbmcekciaaDoorW.PrintWords Go.Proofs.YtoliipbmcekciaaDoorW.PrintLast Go.Proofs.YtoliipbmcekciaaDoorW.PrintMore
open Go.Proofs.YtoliipbmcekciaaDoor.QDc (tk putL putN obj_below take_at yields_blk load_blk load_any store_blk blk_setCells setAll far_setCells below_setCells)
set_option linter.unusedVariables false
set_option linter.unusedSimpArgs false
structure LQ (C : Cf) (xv : Array Value) (w w2 : World) : Prop where
  b : Below w.heap.size w w2
  e0 : w2.heap[w.heap.size]? = some (.cells C.v 122 (0, 0))
  e1 : w2.heap[w.heap.size + 1]? = some (.cells xv 87 (0, 0))
theorem LQ.start (C : Cf) (xv : Array Value) (w : World) : LQ C xv w ((w.alloc (.cells C.v 122)).alloc (.cells xv 87)) :=
  ⟨((Below.refl _ w).alloc (Nat.le_refl _) _).alloc (by simp) _, (Below.heap_alloc _ _ _ (by simp)).trans (World.alloc_heap_new w _), by have := World.alloc_heap_new (w.alloc (.cells C.v 122)) (.cells xv 87); rwa [World.size_alloc] at this⟩
theorem LQ.below {C : Cf} {xv : Array Value} {w w2 w3 : World} (h : LQ C xv w w2) (hb : Below w2.heap.size w2 w3) : LQ C xv w w3 := ⟨h.b.trans (hb.mono h.b.size), obj_below hb h.e0, obj_below hb h.e1⟩
theorem contains110_take (A : Option Addr) (c m : Nat) (l : List S103) (t : Int) (b : Nat) (w : World) (hn : l.length ≤ 1000) (hm : m ≤ l.length) (hr : k103.C w A l.length l) (hb : b < w.heap.size) (hc : w.cell? ⟨b, 0, none⟩ = some (.int .i64 t)) :
    Calls Tryd.prog 110 #[.slice A m c, .func (.func 109) #[] #[.pointer (some ⟨b, 0, none⟩)]] w fun e w' => e = .returned (.bool (decide (0 ≤ seek ((l.take m).map (·.f0)) t))) ∧ Below w.heap.size w w' := by
  have h := contains110_calls A c (l.take m) t b w (by rw [List.length_take]; omega) (Kd.C_take hr hm) hb hc
  rwa [List.length_take, Nat.min_eq_left hm] at h
theorem contains113_take (A : Option Addr) (c m : Nat) (l : List S105) (t : Int) (b : Nat) (w : World) (hn : l.length ≤ 1000) (hm : m ≤ l.length) (hr : k105.C w A l.length l) (hb : b < w.heap.size) (hc : w.cell? ⟨b, 0, none⟩ = some (.int .i64 t)) :
    Calls Tryd.prog 113 #[.slice A m c, .func (.func 112) #[] #[.pointer (some ⟨b, 0, none⟩)]] w fun e w' => e = .returned (.bool (decide (0 ≤ seek ((l.take m).map (·.f0)) t))) ∧ Below w.heap.size w w' := by
  have h := contains113_calls A c (l.take m) t b w (by rw [List.length_take]; omega) (Kd.C_take hr hm) hb hc
  rwa [List.length_take, Nat.min_eq_left hm] at h
def LanQ (C : Cf) (x : S87) (xv : Array Value) (w : World) (m : Nat) (wr : World) : Prop := LQ C xv w wr ∧ m ≤ x.f1.length ∧ ∀ j, j < m → lanE C x j = 0
set_option maxRecDepth 100000 in
set_option maxHeartbeats 2000000 in
theorem lanes2_calls (C : Cf) (x : S87) (B1 B2 : Option Addr) (b1 b2 : Nat) (w : World) (hC : C.At w) (hL : C.Lim) (hT : TenOK C) (h16 : C.l0.length ≤ 16) (hlab : isLB C x.f0 = true) (hx1 : x.f1.length ≤ 1000) (hb1 : x.f1.length ≤ b1) (hr1 : Kd.C k103 w B1 x.f1.length x.f1) : Calls Tryd.prog 101 #[.agg C.v, .agg #[.int .i64 x.f0, .slice B1 x.f1.length b1, .slice B2 x.f2.length b2]] w fun e w' => e = .returned (.int .i64 (lanF C x)) ∧ Below w.heap.size w w' := by
  have HC := Aside0.mk hC
  have HL := Aside0.mk hL
  have HT := Aside0.mk hT
  have HX := Aside0.mk (And.intro hx1 hr1)
  have HB1 := Aside0.mk hb1
  have HXL : Aside0 ((0 ≤ x.f0 ∧ x.f0 < (C.l0.length : Int)) ∧ C.l0.length ≤ 16) := ⟨⟨by unfold isLB at hlab; exact of_decide_eq_true hlab, h16⟩⟩
  clear hC hL hT hx1 hr1 hlab h16 hb1
  have key : ∀ q : Int, lanF C x = q → Calls Tryd.prog 101 #[.agg C.v, .agg #[.int .i64 x.f0, .slice B1 x.f1.length b1, .slice B2 x.f2.length b2]] w fun e w' => e = .returned (.int .i64 q) ∧ Below w.heap.size w w' := by
    intro q hq
    have HQ := Aside0.mk hq
    clear hq
    go_enter Tryd.func101, Tryd.ntmps101
    go_upto_region 1 with fail
    have H0 : Aside0 (LanQ C x #[.int .i64 x.f0, .slice B1 x.f1.length b1, .slice B2 x.f2.length b2] w 0 ((w.alloc (.cells C.v 122)).alloc (.cells #[.int .i64 x.f0, .slice B1 x.f1.length b1, .slice B2 x.f2.length b2] 87))) := ⟨⟨LQ.start C #[.int .i64 x.f0, .slice B1 x.f1.length b1, .slice B2 x.f2.length b2] w, Nat.zero_le _, fun j hj => absurd hj (by omega)⟩⟩
    generalize ((w.alloc (.cells C.v 122)).alloc (.cells #[.int .i64 x.f0, .slice B1 x.f1.length b1, .slice B2 x.f2.length b2] 87)) = w2 at H0 ⊢
    obtain ⟨A1, hA1⟩ : ∃ A, C.A1 = A := ⟨_, rfl⟩
    have HA1 := Aside0.mk hA1
    clear hA1
    have c1s := (ch_cell H0.out.1.e1).2.1
    go_wp2_with fail
    go_loopw [5, 6, 7, 11] (fun _ _ _ i wr => ∃ m : Nat, i = .int .i64 (m : Int) ∧ Aside0 (LanQ C x #[.int .i64 x.f0, .slice B1 x.f1.length b1, .slice B2 x.f2.length b2] w m wr)) (fun _ _ _ i _ => x.f1.length - (intOf i).toNat)
    case atStart => exact ⟨0, rfl, H0⟩
    case round =>
      clear H0 c1s
      obtain ⟨m, rfl, hS⟩ := hrel
      have hlim : x.f1.length ≤ 1000 := HX.out.1
      by_cases h1 : (m : Int) < (x.f1.length : Int)
      · have e1 : decide ((m : Int) < (x.f1.length : Int)) = true := decide_eq_true h1
        have H1 := Aside0.mk h1
        have h00 : (0 : Int) ≤ (m : Int) := by omega
        obtain ⟨ad, eB, v0, v1, v2⟩ := at_T103 (Kd.C_below HX.out.2 hS.out.1.b) (m : Int) h00 h1
        subst eB
        rw [Int.toNat_natCast] at v0 v1 v2
        obtain ⟨lx, hlx⟩ : ∃ y, rd_T103 x.f1 (m : Int) = y := ⟨_, rfl⟩
        have HLX := Aside0.mk hlx
        have HLT : Aside0 (lanT x m = lx.f0) := ⟨by unfold lanT; rw [hlx]⟩
        rw [hlx] at v0 v1 v2
        clear hlx
        obtain ⟨p1, hp1⟩ : ∃ b, isTB C lx.f0 = b := ⟨_, rfl⟩
        obtain ⟨p2, hp2⟩ : ∃ b, winB lx.f1 1 64 = b := ⟨_, rfl⟩
        obtain ⟨dp, hdp⟩ : ∃ b, lanDup x m = b := ⟨_, rfl⟩
        have HB := Aside0.mk (And.intro hp1 (And.intro hp2 hdp))
        clear hp1 hp2 hdp
        have HMX : Aside0 (m ≤ x.f1.length) := ⟨hS.out.2.1⟩
        have HDUPS : Aside0 (decide (0 ≤ seek ((x.f1.take m).map (·.f0)) lx.f0) = lanDup x m) := ⟨by rw [← HLT.out]; exact lanDup_seek x m hS.out.2.1⟩
        have HE : Aside0 (lanE C x m = if (p1 && p2) = false then 42 else if dp = true then 42 else if hasBit (rd C.l0 (labT C lx.f0)) x.f0 = false then 44 else 0) := ⟨by unfold lanE; rw [HLX.out, HLT.out, HB.out.1, HB.out.2.1, HB.out.2.2]⟩
        go_upto_region 4 with fail
        have BG : Aside0 (Below wr.heap.size wr (wr.alloc (.cells #[.int .i64 lx.f0, .int .i64 lx.f1, .bool lx.f2] 103))) := ⟨(Below.refl _ _).alloc (Nat.le_refl _) _⟩
        have EG : Aside0 ((wr.alloc (.cells #[.int .i64 lx.f0, .int .i64 lx.f1, .bool lx.f2] 103)).heap[wr.heap.size]? = some (.cells #[.int .i64 lx.f0, .int .i64 lx.f1, .bool lx.f2] 103 (0, 0))) := ⟨World.alloc_heap_new _ _⟩
        generalize wr.alloc (.cells #[.int .i64 lx.f0, .int .i64 lx.f1, .bool lx.f2] 103) = wg at BG EG ⊢
        have HG := Aside0.mk (hS.out.1.below BG.out)
        have HK : Aside0 (wr.heap.size < wg.heap.size) := ⟨(Array.getElem?_eq_some_iff.1 EG.out).1⟩
        generalize wr.heap.size = k0 at EG HK ⊢
        have g0 : wg.cell? ⟨k0, 0, none⟩ = some (.int .i64 lx.f0) := by simp [World.cell?, EG.out]
        have g1 : wg.cell? ⟨k0, 1, none⟩ = some (.int .i64 lx.f1) := by simp [World.cell?, EG.out]
        have c1g := (ch_cell HG.out.e1).2.1
        have hmb : (m : Int) ≤ (b1 : Int) := by have := HB1.out; omega
        have hmb2 : m ≤ b1 := by omega
        cases p1 with
        | false =>
          have HV : Aside0 (lanE C x m = 42) := ⟨by rw [HE.out]; rfl⟩
          go_wp2_with (first | ((with_reducible refine gate_ (.load 122 (.tmp 2)) rfl ?_); (try (refine gate_guard (by rfl) ?_; dsimp only)); refine load_blk rfl 122 (.tmp 2) rfl w.heap.size _ 122 rfl _ (HG.out.e0) Tryd.underlying122 rfl (by kernel_rfl) ?_) | (go_at_call 104; (with_reducible refine (ten2_calls C lx.f0 _ HL.out.l1).mono ?_); rintro e wa ⟨rfl, hb⟩; rw [HB.out.1]; have N1 := Aside0.mk hb; have c1a := pw_cell_below hb c1g; have g1a := pw_cell_below hb g1; have g0a := pw_cell_below hb g0; clear hb))
          go_ret
          exact ⟨by rw [← HQ.out]; rw [show lanF C x = 42 from (snd_hit (f := lanE C x) (i := m) (by rw [HV.out]; decide) (by have := H1.out; omega) hS.out.2.2).trans (HV.out)]; rfl, HG.out.b.trans (N1.out.mono HG.out.b.size)⟩
        | true =>
          cases dp with
          | true =>
            have HV : Aside0 (lanE C x m = 42) := ⟨by rw [HE.out]; cases p2 <;> rfl⟩
            go_wp2_with (first | ((with_reducible refine gate_ (.load 122 (.tmp 2)) rfl ?_); (try (refine gate_guard (by rfl) ?_; dsimp only)); refine load_blk rfl 122 (.tmp 2) rfl w.heap.size _ 122 rfl _ (HG.out.e0) Tryd.underlying122 rfl (by kernel_rfl) ?_) | (go_at_call 104; (with_reducible refine (ten2_calls C lx.f0 _ HL.out.l1).mono ?_); rintro e wa ⟨rfl, hb⟩; rw [HB.out.1]; have N1 := Aside0.mk hb; have c1a := pw_cell_below hb c1g; have g1a := pw_cell_below hb g1; have g0a := pw_cell_below hb g0; clear hb) | (go_at_call 110; (with_reducible refine (contains110_take (some ad) b1 m x.f1 lx.f0 k0 _ HX.out.1 HMX.out (Kd.C_below HX.out.2 (HG.out.below N1.out).b) (Nat.lt_of_lt_of_le HK.out N1.out.size) g0a).mono ?_); rintro e wb ⟨rfl, hb⟩; rw [HDUPS.out, HB.out.2.2]; have N2 := Aside0.mk hb; have g1b := pw_cell_below hb g1a; have g0b := pw_cell_below hb g0a; clear hb))
            go_ret
            exact ⟨by rw [← HQ.out]; rw [show lanF C x = 42 from (snd_hit (f := lanE C x) (i := m) (by rw [HV.out]; decide) (by have := H1.out; omega) hS.out.2.2).trans (HV.out)]; rfl, (HG.out.below N1.out).b.trans (N2.out.mono (HG.out.below N1.out).b.size)⟩
          | false =>
            cases p2 with
            | false =>
              have HV : Aside0 (lanE C x m = 42) := ⟨by rw [HE.out]; rfl⟩
              go_wp2_with (first | ((with_reducible refine gate_ (.load 122 (.tmp 2)) rfl ?_); (try (refine gate_guard (by rfl) ?_; dsimp only)); refine load_blk rfl 122 (.tmp 2) rfl w.heap.size _ 122 rfl _ (HG.out.e0) Tryd.underlying122 rfl (by kernel_rfl) ?_) | (go_at_call 104; (with_reducible refine (ten2_calls C lx.f0 _ HL.out.l1).mono ?_); rintro e wa ⟨rfl, hb⟩; rw [HB.out.1]; have N1 := Aside0.mk hb; have c1a := pw_cell_below hb c1g; have g1a := pw_cell_below hb g1; have g0a := pw_cell_below hb g0; clear hb) | (go_at_call 110; (with_reducible refine (contains110_take (some ad) b1 m x.f1 lx.f0 k0 _ HX.out.1 HMX.out (Kd.C_below HX.out.2 (HG.out.below N1.out).b) (Nat.lt_of_lt_of_le HK.out N1.out.size) g0a).mono ?_); rintro e wb ⟨rfl, hb⟩; rw [HDUPS.out, HB.out.2.2]; have N2 := Aside0.mk hb; have g1b := pw_cell_below hb g1a; have g0b := pw_cell_below hb g0a; clear hb) | (go_at_call 100; refine (win2_calls _ _ _ _).mono ?_; rintro e wc ⟨rfl, rfl⟩; rw [HB.out.2.1]))
              go_ret
              exact ⟨by rw [← HQ.out]; rw [show lanF C x = 42 from (snd_hit (f := lanE C x) (i := m) (by rw [HV.out]; decide) (by have := H1.out; omega) hS.out.2.2).trans (HV.out)]; rfl, (HG.out.below N1.out).b.trans (N2.out.mono (HG.out.below N1.out).b.size)⟩
            | true =>
              go_upto_region 7 with (first | ((with_reducible refine gate_ (.load 122 (.tmp 2)) rfl ?_); (try (refine gate_guard (by rfl) ?_; dsimp only)); refine load_blk rfl 122 (.tmp 2) rfl w.heap.size _ 122 rfl _ (HG.out.e0) Tryd.underlying122 rfl (by kernel_rfl) ?_) | (go_at_call 104; (with_reducible refine (ten2_calls C lx.f0 _ HL.out.l1).mono ?_); rintro e wa ⟨rfl, hb⟩; rw [HB.out.1]; have N1 := Aside0.mk hb; have c1a := pw_cell_below hb c1g; have g1a := pw_cell_below hb g1; have g0a := pw_cell_below hb g0; clear hb) | (go_at_call 110; (with_reducible refine (contains110_take (some ad) b1 m x.f1 lx.f0 k0 _ HX.out.1 HMX.out (Kd.C_below HX.out.2 (HG.out.below N1.out).b) (Nat.lt_of_lt_of_le HK.out N1.out.size) g0a).mono ?_); rintro e wb ⟨rfl, hb⟩; rw [HDUPS.out, HB.out.2.2]; have N2 := Aside0.mk hb; have g1b := pw_cell_below hb g1a; have g0b := pw_cell_below hb g0a; clear hb) | (go_at_call 100; refine (win2_calls _ _ _ _).mono ?_; rintro e wc ⟨rfl, rfl⟩; rw [HB.out.2.1]))
              have HP := Aside0.mk ((HG.out.below N1.out).below N2.out)
              clear c1g g0 g1 c1a g1a g0a g1b v0 v1 v2
              have c0 := (ch_cell HP.out.e1).1
              have xc1 := (cq_cell HP.out.e0).2.1
              rw [HA1.out] at xc1
              have htr : 0 ≤ lx.f0 ∧ lx.f0 < (C.l1.length : Int) := by have := HB.out.1; unfold isTB at this; exact of_decide_eq_true this
              obtain ⟨ht0, ht1⟩ := htr
              obtain ⟨ad8, eA8, ty, ty1⟩ := at_T97 (HC.out.below HP.out.b).r1 lx.f0 ht0 ht1
              obtain rfl : A1 = some ad8 := HA1.out.symm.trans eA8
              have hlb := HT.out.lab HB.out.1
              obtain ⟨lb, hlbe⟩ : ∃ t, (rd_T97 C.l1 lx.f0).f0 = t := ⟨_, rfl⟩
              rw [hlbe] at ty hlb
              have HLB := Aside0.mk (And.intro hlbe hlb)
              clear hlbe hlb ty1
              obtain ⟨fb, hfb⟩ : ∃ b, hasBit (rd C.l0 lb) x.f0 = b := ⟨_, rfl⟩
              have HFB := Aside0.mk hfb
              have HE2 : Aside0 (lanE C x m = if fb = false then 44 else 0) := ⟨by rw [HE.out, if_neg (by decide), if_neg (by decide), show labT C lx.f0 = lb from HLB.out.1, hfb]⟩
              clear hfb
              cases fb with
              | false =>
                have HV : Aside0 (lanE C x m = 44) := ⟨by rw [HE2.out]; rfl⟩
                refine wp_region_held_drew (S := fun w' => Below wb.heap.size wb w') (by kernel_rfl) (pw_below_drewN (Below.refl _ _) 1) (fun hHeld => ?_)
                generalize wb.drew = wd at hHeld ⊢
                refine tk (i := 0) (v := _) 36 rfl (yields_blk (by rfl) 122 (.tmp 2) rfl (w.heap.size) _ 122 rfl _ (fun w' hW => obj_below hW HP.out.e0) Tryd.underlying122 rfl (by kernel_rfl)) hHeld ?_
                try simp only [putL, putN, List.set]
                refine tk (i := 1) (v := _) 37 rfl (Or.inl ⟨by rfl, fun w' hW => by have hq0 := pw_cell_below hW xc1; have hq1 := pw_cell_below hW ty; have hq2 := pw_cell_below hW g0b; have hq3 := pw_cell_below hW c0; go_simp; try (first | with_reducible rfl | rfl)⟩) hHeld ?_
                try simp only [putL, putN, List.set]
                refine tk (i := 4) (v := _) 40 rfl (Or.inl ⟨by rfl, fun w' hW => by have hq0 := pw_cell_below hW xc1; have hq1 := pw_cell_below hW ty; have hq2 := pw_cell_below hW g0b; have hq3 := pw_cell_below hW c0; go_simp; try (first | with_reducible rfl | rfl)⟩) hHeld ?_
                try simp only [putL, putN, List.set]
                refine tk (i := 9) (v := _) 45 rfl (Or.inl ⟨by rfl, fun w' hW => by have hq0 := pw_cell_below hW xc1; have hq1 := pw_cell_below hW ty; have hq2 := pw_cell_below hW g0b; have hq3 := pw_cell_below hW c0; go_simp; try (first | with_reducible rfl | rfl)⟩) hHeld ?_
                try simp only [putL, putN, List.set]
                refine tk (i := 2) (v := _) 38 rfl (Or.inl ⟨by rfl, fun w' hW => by have hq0 := pw_cell_below hW xc1; have hq1 := pw_cell_below hW ty; have hq2 := pw_cell_below hW g0b; have hq3 := pw_cell_below hW c0; go_simp; try (first | with_reducible rfl | rfl)⟩) hHeld ?_
                try simp only [putL, putN, List.set]
                refine tk (i := 5) (v := _) 41 rfl (Or.inl ⟨by rfl, fun w' hW => by have hq0 := pw_cell_below hW xc1; have hq1 := pw_cell_below hW ty; have hq2 := pw_cell_below hW g0b; have hq3 := pw_cell_below hW c0; go_simp; try (first | with_reducible rfl | rfl)⟩) hHeld ?_
                try simp only [putL, putN, List.set]
                refine tk (i := 10) (v := _) 46 rfl (Or.inl ⟨by rfl, fun w' hW => by have hq0 := pw_cell_below hW xc1; have hq1 := pw_cell_below hW ty; have hq2 := pw_cell_below hW g0b; have hq3 := pw_cell_below hW c0; go_simp; try (first | with_reducible rfl | rfl)⟩) hHeld ?_
                try simp only [putL, putN, List.set]
                refine tk (i := 3) (v := _) 39 rfl (Or.inl ⟨by rfl, fun w' hW => by have hq0 := pw_cell_below hW xc1; have hq1 := pw_cell_below hW ty; have hq2 := pw_cell_below hW g0b; have hq3 := pw_cell_below hW c0; go_simp; try (first | with_reducible rfl | rfl)⟩) hHeld ?_
                try simp only [putL, putN, List.set]
                refine tk (i := 6) (v := _) 42 rfl (Or.inl ⟨by rfl, fun w' hW => by have hq0 := pw_cell_below hW xc1; have hq1 := pw_cell_below hW ty; have hq2 := pw_cell_below hW g0b; have hq3 := pw_cell_below hW c0; go_simp; try (first | with_reducible rfl | rfl)⟩) hHeld ?_
                try simp only [putL, putN, List.set]
                refine tk (i := 7) (v := _) 43 rfl (Or.inl ⟨by rfl, fun w' hW => by have hq0 := pw_cell_below hW xc1; have hq1 := pw_cell_below hW ty; have hq2 := pw_cell_below hW g0b; have hq3 := pw_cell_below hW c0; go_simp; try (first | with_reducible rfl | rfl)⟩) hHeld ?_
                try simp only [putL, putN, List.set]
                refine tk (i := 8) (v := _) 44 rfl (Or.inl ⟨by rfl, fun w' hW => by have hq0 := pw_cell_below hW xc1; have hq1 := pw_cell_below hW ty; have hq2 := pw_cell_below hW g0b; have hq3 := pw_cell_below hW c0; go_simp; try (first | with_reducible rfl | rfl)⟩) hHeld ?_
                try simp only [putL, putN, List.set]
                have N0 := Aside0.mk hHeld
                refine wpAnyH_ready (rs := [11]) (by kernel_rfl) (by simp) ?_
                refine AllReadyH.cons rfl (fun K hK => ?_) AllReadyH.nil
                go_simp
                go_wp2_with (first | (go_at_call 111; refine (flo2_calls C lb x.f0 _ (HC.out.below (HP.out.b.trans (N0.out.mono HP.out.b.size))) HL.out HLB.out.2.1 HLB.out.2.2 HXL.out.1.1 (by have := HXL.out.1.2; have := HXL.out.2; omega)).mono ?_; rintro e wf ⟨rfl, hb⟩; rw [HFB.out]; have N3 := Aside0.mk (below_step N0.out hb); clear hb))
                clear hHeld
                refine hK.out _ _ N3.out (fun hHeld => ?_)
                clear hK K
                try simp only [putL, putN, List.set]
                refine tk (i := 12) (v := _) 48 rfl (Or.inl ⟨by rfl, fun w' hW => by have hq0 := pw_cell_below hW xc1; have hq1 := pw_cell_below hW ty; have hq2 := pw_cell_below hW g0b; have hq3 := pw_cell_below hW c0; go_simp; try (first | with_reducible rfl | rfl)⟩) hHeld ?_
                try simp only [putL, putN, List.set]
                refine wpAnyH_done (by kernel_rfl) ?_ _
                clear hHeld
                go_wp2_with fail
                go_ret
                exact ⟨by rw [← HQ.out]; rw [show lanF C x = 44 from (snd_hit (f := lanE C x) (i := m) (by rw [HV.out]; decide) (by have := H1.out; omega) hS.out.2.2).trans (HV.out)]; rfl, HP.out.b.trans (N3.out.mono HP.out.b.size)⟩
              | true =>
                have HV : Aside0 (lanE C x m = 0) := ⟨by rw [HE2.out]; rfl⟩
                refine wp_region_held_drew (S := fun w' => Below wb.heap.size wb w') (by kernel_rfl) (pw_below_drewN (Below.refl _ _) 1) (fun hHeld => ?_)
                generalize wb.drew = wd at hHeld ⊢
                refine tk (i := 0) (v := _) 36 rfl (yields_blk (by rfl) 122 (.tmp 2) rfl (w.heap.size) _ 122 rfl _ (fun w' hW => obj_below hW HP.out.e0) Tryd.underlying122 rfl (by kernel_rfl)) hHeld ?_
                try simp only [putL, putN, List.set]
                refine tk (i := 1) (v := _) 37 rfl (Or.inl ⟨by rfl, fun w' hW => by have hq0 := pw_cell_below hW xc1; have hq1 := pw_cell_below hW ty; have hq2 := pw_cell_below hW g0b; have hq3 := pw_cell_below hW c0; go_simp; try (first | with_reducible rfl | rfl)⟩) hHeld ?_
                try simp only [putL, putN, List.set]
                refine tk (i := 4) (v := _) 40 rfl (Or.inl ⟨by rfl, fun w' hW => by have hq0 := pw_cell_below hW xc1; have hq1 := pw_cell_below hW ty; have hq2 := pw_cell_below hW g0b; have hq3 := pw_cell_below hW c0; go_simp; try (first | with_reducible rfl | rfl)⟩) hHeld ?_
                try simp only [putL, putN, List.set]
                refine tk (i := 9) (v := _) 45 rfl (Or.inl ⟨by rfl, fun w' hW => by have hq0 := pw_cell_below hW xc1; have hq1 := pw_cell_below hW ty; have hq2 := pw_cell_below hW g0b; have hq3 := pw_cell_below hW c0; go_simp; try (first | with_reducible rfl | rfl)⟩) hHeld ?_
                try simp only [putL, putN, List.set]
                refine tk (i := 2) (v := _) 38 rfl (Or.inl ⟨by rfl, fun w' hW => by have hq0 := pw_cell_below hW xc1; have hq1 := pw_cell_below hW ty; have hq2 := pw_cell_below hW g0b; have hq3 := pw_cell_below hW c0; go_simp; try (first | with_reducible rfl | rfl)⟩) hHeld ?_
                try simp only [putL, putN, List.set]
                refine tk (i := 5) (v := _) 41 rfl (Or.inl ⟨by rfl, fun w' hW => by have hq0 := pw_cell_below hW xc1; have hq1 := pw_cell_below hW ty; have hq2 := pw_cell_below hW g0b; have hq3 := pw_cell_below hW c0; go_simp; try (first | with_reducible rfl | rfl)⟩) hHeld ?_
                try simp only [putL, putN, List.set]
                refine tk (i := 10) (v := _) 46 rfl (Or.inl ⟨by rfl, fun w' hW => by have hq0 := pw_cell_below hW xc1; have hq1 := pw_cell_below hW ty; have hq2 := pw_cell_below hW g0b; have hq3 := pw_cell_below hW c0; go_simp; try (first | with_reducible rfl | rfl)⟩) hHeld ?_
                try simp only [putL, putN, List.set]
                refine tk (i := 3) (v := _) 39 rfl (Or.inl ⟨by rfl, fun w' hW => by have hq0 := pw_cell_below hW xc1; have hq1 := pw_cell_below hW ty; have hq2 := pw_cell_below hW g0b; have hq3 := pw_cell_below hW c0; go_simp; try (first | with_reducible rfl | rfl)⟩) hHeld ?_
                try simp only [putL, putN, List.set]
                refine tk (i := 6) (v := _) 42 rfl (Or.inl ⟨by rfl, fun w' hW => by have hq0 := pw_cell_below hW xc1; have hq1 := pw_cell_below hW ty; have hq2 := pw_cell_below hW g0b; have hq3 := pw_cell_below hW c0; go_simp; try (first | with_reducible rfl | rfl)⟩) hHeld ?_
                try simp only [putL, putN, List.set]
                refine tk (i := 7) (v := _) 43 rfl (Or.inl ⟨by rfl, fun w' hW => by have hq0 := pw_cell_below hW xc1; have hq1 := pw_cell_below hW ty; have hq2 := pw_cell_below hW g0b; have hq3 := pw_cell_below hW c0; go_simp; try (first | with_reducible rfl | rfl)⟩) hHeld ?_
                try simp only [putL, putN, List.set]
                refine tk (i := 8) (v := _) 44 rfl (Or.inl ⟨by rfl, fun w' hW => by have hq0 := pw_cell_below hW xc1; have hq1 := pw_cell_below hW ty; have hq2 := pw_cell_below hW g0b; have hq3 := pw_cell_below hW c0; go_simp; try (first | with_reducible rfl | rfl)⟩) hHeld ?_
                try simp only [putL, putN, List.set]
                have N0 := Aside0.mk hHeld
                refine wpAnyH_ready (rs := [11]) (by kernel_rfl) (by simp) ?_
                refine AllReadyH.cons rfl (fun K hK => ?_) AllReadyH.nil
                go_simp
                go_wp2_with (first | (go_at_call 111; refine (flo2_calls C lb x.f0 _ (HC.out.below (HP.out.b.trans (N0.out.mono HP.out.b.size))) HL.out HLB.out.2.1 HLB.out.2.2 HXL.out.1.1 (by have := HXL.out.1.2; have := HXL.out.2; omega)).mono ?_; rintro e wf ⟨rfl, hb⟩; rw [HFB.out]; have N3 := Aside0.mk (below_step N0.out hb); clear hb))
                clear hHeld
                refine hK.out _ _ N3.out (fun hHeld => ?_)
                clear hK K
                try simp only [putL, putN, List.set]
                refine tk (i := 12) (v := _) 48 rfl (Or.inl ⟨by rfl, fun w' hW => by have hq0 := pw_cell_below hW xc1; have hq1 := pw_cell_below hW ty; have hq2 := pw_cell_below hW g0b; have hq3 := pw_cell_below hW c0; go_simp; try (first | with_reducible rfl | rfl)⟩) hHeld ?_
                try simp only [putL, putN, List.set]
                refine wpAnyH_done (by kernel_rfl) ?_ _
                clear hHeld
                go_wp2_with fail
                go_roundw
                case rel => exact ⟨m + 1, by go_num, ⟨HP.out.below N3.out, by have := H1.out; omega, fun j hj => by
                  by_cases e : j = m
                  · subst e; exact HV.out
                  · exact hS.out.2.2 j (by omega)⟩⟩
                case measure => simp [intOf]; have := H1.out; omega
      · have e1 : decide ((m : Int) < (x.f1.length : Int)) = false := decide_eq_false h1
        have H1 := Aside0.mk h1
        go_wp2_with fail
        go_ret
        exact ⟨by rw [← HQ.out]; rw [show lanF C x = 0 from snd_none (fun j hj => hS.out.2.2 j (by have := H1.out; omega))]; rfl, hS.out.1.b⟩
  exact key _ rfl
def RecQ (C : Cf) (x : S87) (xv : Array Value) (w : World) (m : Nat) (wr : World) : Prop := LQ C xv w wr ∧ m ≤ x.f2.length ∧ ∀ j, j < m → recE C x j = 0
set_option maxRecDepth 100000 in
set_option maxHeartbeats 2000000 in
theorem receivers2_calls (C : Cf) (x : S87) (B1 B2 : Option Addr) (b1 b2 : Nat) (w : World) (hC : C.At w) (hL : C.Lim) (hT : TenOK C) (h16 : C.l0.length ≤ 16) (hlab : isLB C x.f0 = true) (hx2 : x.f2.length ≤ 1000) (hb2 : x.f2.length ≤ b2) (hr2 : Kd.C k105 w B2 x.f2.length x.f2) : Calls Tryd.prog 102 #[.agg C.v, .agg #[.int .i64 x.f0, .slice B1 x.f1.length b1, .slice B2 x.f2.length b2]] w fun e w' => e = .returned (.int .i64 (recF C x)) ∧ Below w.heap.size w w' := by
  have HC := Aside0.mk hC
  have HL := Aside0.mk hL
  have HT := Aside0.mk hT
  have HX := Aside0.mk (And.intro hx2 hr2)
  have HB1 := Aside0.mk hb2
  have HXL : Aside0 ((0 ≤ x.f0 ∧ x.f0 < (C.l0.length : Int)) ∧ C.l0.length ≤ 16) := ⟨⟨by unfold isLB at hlab; exact of_decide_eq_true hlab, h16⟩⟩
  clear hC hL hT hx2 hr2 hlab h16 hb2
  have key : ∀ q : Int, recF C x = q → Calls Tryd.prog 102 #[.agg C.v, .agg #[.int .i64 x.f0, .slice B1 x.f1.length b1, .slice B2 x.f2.length b2]] w fun e w' => e = .returned (.int .i64 q) ∧ Below w.heap.size w w' := by
    intro q hq
    have HQ := Aside0.mk hq
    clear hq
    go_enter Tryd.func102, Tryd.ntmps102
    go_upto_region 1 with fail
    have H0 : Aside0 (RecQ C x #[.int .i64 x.f0, .slice B1 x.f1.length b1, .slice B2 x.f2.length b2] w 0 ((w.alloc (.cells C.v 122)).alloc (.cells #[.int .i64 x.f0, .slice B1 x.f1.length b1, .slice B2 x.f2.length b2] 87))) := ⟨⟨LQ.start C #[.int .i64 x.f0, .slice B1 x.f1.length b1, .slice B2 x.f2.length b2] w, Nat.zero_le _, fun j hj => absurd hj (by omega)⟩⟩
    generalize ((w.alloc (.cells C.v 122)).alloc (.cells #[.int .i64 x.f0, .slice B1 x.f1.length b1, .slice B2 x.f2.length b2] 87)) = w2 at H0 ⊢
    obtain ⟨A1, hA1⟩ : ∃ A, C.A1 = A := ⟨_, rfl⟩
    have HA1 := Aside0.mk hA1
    clear hA1
    have c2s := (ch_cell H0.out.1.e1).2.2
    go_wp2_with fail
    go_loopw [5, 6, 7, 8, 15] (fun _ _ _ _ i wr => ∃ m : Nat, i = .int .i64 (m : Int) ∧ Aside0 (RecQ C x #[.int .i64 x.f0, .slice B1 x.f1.length b1, .slice B2 x.f2.length b2] w m wr)) (fun _ _ _ _ i _ => x.f2.length - (intOf i).toNat)
    case atStart => exact ⟨0, rfl, H0⟩
    case round =>
      clear H0 c2s
      obtain ⟨m, rfl, hS⟩ := hrel
      have hlim : x.f2.length ≤ 1000 := HX.out.1
      by_cases h1 : (m : Int) < (x.f2.length : Int)
      · have e1 : decide ((m : Int) < (x.f2.length : Int)) = true := decide_eq_true h1
        have H1 := Aside0.mk h1
        have h00 : (0 : Int) ≤ (m : Int) := by omega
        obtain ⟨ad, eB, v0, v1⟩ := at_T105 (Kd.C_below HX.out.2 hS.out.1.b) (m : Int) h00 h1
        subst eB
        rw [Int.toNat_natCast] at v0 v1
        obtain ⟨rx, hrx⟩ : ∃ y, rd_T105 x.f2 (m : Int) = y := ⟨_, rfl⟩
        have HRT : Aside0 (recT x m = rx.f0) := ⟨by unfold recT; rw [hrx]⟩
        rw [hrx] at v0 v1
        clear hrx
        obtain ⟨p1, hp1⟩ : ∃ b, isTB C rx.f0 = b := ⟨_, rfl⟩
        obtain ⟨dp, hdp⟩ : ∃ b, recDup x m = b := ⟨_, rfl⟩
        have HB := Aside0.mk (And.intro hp1 hdp)
        clear hp1 hdp
        have HMX : Aside0 (m ≤ x.f2.length) := ⟨hS.out.2.1⟩
        have HDUPS : Aside0 (decide (0 ≤ seek ((x.f2.take m).map (·.f0)) rx.f0) = recDup x m) := ⟨by rw [← HRT.out]; exact recDup_seek x m hS.out.2.1⟩
        have HE : Aside0 (recE C x m = if p1 = false then 43 else if dp = true then 43 else if hasBit (rd C.l0 x.f0) (labT C rx.f0) = false then 44 else if anyTo (recCr C x m) m = true then 44 else 0) := ⟨by unfold recE; rw [HRT.out, HB.out.1, HB.out.2]⟩
        go_upto_region 4 with fail
        have BG : Aside0 (Below wr.heap.size wr (wr.alloc (.cells #[.int .i64 rx.f0, .bool rx.f1] 105))) := ⟨(Below.refl _ _).alloc (Nat.le_refl _) _⟩
        have EG : Aside0 ((wr.alloc (.cells #[.int .i64 rx.f0, .bool rx.f1] 105)).heap[wr.heap.size]? = some (.cells #[.int .i64 rx.f0, .bool rx.f1] 105 (0, 0))) := ⟨World.alloc_heap_new _ _⟩
        generalize wr.alloc (.cells #[.int .i64 rx.f0, .bool rx.f1] 105) = wg at BG EG ⊢
        have HG := Aside0.mk (hS.out.1.below BG.out)
        have HK : Aside0 (wr.heap.size < wg.heap.size) := ⟨(Array.getElem?_eq_some_iff.1 EG.out).1⟩
        generalize wr.heap.size = k0 at EG HK ⊢
        have g0 : wg.cell? ⟨k0, 0, none⟩ = some (.int .i64 rx.f0) := by simp [World.cell?, EG.out]
        have c2g := (ch_cell HG.out.e1).2.2
        have hmb : (m : Int) ≤ (b2 : Int) := by have := HB1.out; omega
        have hmb2 : m ≤ b2 := by omega
        cases p1 with
        | false =>
          have HV : Aside0 (recE C x m = 43) := ⟨by rw [HE.out]; rfl⟩
          go_wp2_with (first | ((with_reducible refine gate_ (.load 122 (.tmp 2)) rfl ?_); (try (refine gate_guard (by rfl) ?_; dsimp only)); refine load_blk rfl 122 (.tmp 2) rfl w.heap.size _ 122 rfl _ (HG.out.e0) Tryd.underlying122 rfl (by kernel_rfl) ?_) | (go_at_call 104; (with_reducible refine (ten2_calls C rx.f0 _ HL.out.l1).mono ?_); rintro e wa ⟨rfl, hb⟩; rw [HB.out.1]; have N1 := Aside0.mk hb; have c2a := pw_cell_below hb c2g; have g0a := pw_cell_below hb g0; clear hb))
          go_ret
          exact ⟨by rw [← HQ.out]; rw [show recF C x = 43 from (snd_hit (f := recE C x) (i := m) (by rw [HV.out]; decide) (by have := H1.out; omega) hS.out.2.2).trans (HV.out)]; rfl, HG.out.b.trans (N1.out.mono HG.out.b.size)⟩
        | true =>
          cases dp with
          | true =>
            have HV : Aside0 (recE C x m = 43) := ⟨by rw [HE.out]; rfl⟩
            go_wp2_with (first | ((with_reducible refine gate_ (.load 122 (.tmp 2)) rfl ?_); (try (refine gate_guard (by rfl) ?_; dsimp only)); refine load_blk rfl 122 (.tmp 2) rfl w.heap.size _ 122 rfl _ (HG.out.e0) Tryd.underlying122 rfl (by kernel_rfl) ?_) | (go_at_call 104; (with_reducible refine (ten2_calls C rx.f0 _ HL.out.l1).mono ?_); rintro e wa ⟨rfl, hb⟩; rw [HB.out.1]; have N1 := Aside0.mk hb; have c2a := pw_cell_below hb c2g; have g0a := pw_cell_below hb g0; clear hb) | (go_at_call 113; (with_reducible refine (contains113_take (some ad) b2 m x.f2 rx.f0 k0 _ HX.out.1 HMX.out (Kd.C_below HX.out.2 (HG.out.below N1.out).b) (Nat.lt_of_lt_of_le HK.out N1.out.size) g0a).mono ?_); rintro e wb ⟨rfl, hb⟩; rw [HDUPS.out, HB.out.2]; have N2 := Aside0.mk hb; have g0b := pw_cell_below hb g0a; clear hb))
            go_ret
            exact ⟨by rw [← HQ.out]; rw [show recF C x = 43 from (snd_hit (f := recE C x) (i := m) (by rw [HV.out]; decide) (by have := H1.out; omega) hS.out.2.2).trans (HV.out)]; rfl, (HG.out.below N1.out).b.trans (N2.out.mono (HG.out.below N1.out).b.size)⟩
          | false =>
            go_upto_region 7 with (first | ((with_reducible refine gate_ (.load 122 (.tmp 2)) rfl ?_); (try (refine gate_guard (by rfl) ?_; dsimp only)); refine load_blk rfl 122 (.tmp 2) rfl w.heap.size _ 122 rfl _ (HG.out.e0) Tryd.underlying122 rfl (by kernel_rfl) ?_) | (go_at_call 104; (with_reducible refine (ten2_calls C rx.f0 _ HL.out.l1).mono ?_); rintro e wa ⟨rfl, hb⟩; rw [HB.out.1]; have N1 := Aside0.mk hb; have c2a := pw_cell_below hb c2g; have g0a := pw_cell_below hb g0; clear hb) | (go_at_call 113; (with_reducible refine (contains113_take (some ad) b2 m x.f2 rx.f0 k0 _ HX.out.1 HMX.out (Kd.C_below HX.out.2 (HG.out.below N1.out).b) (Nat.lt_of_lt_of_le HK.out N1.out.size) g0a).mono ?_); rintro e wb ⟨rfl, hb⟩; rw [HDUPS.out, HB.out.2]; have N2 := Aside0.mk hb; have g0b := pw_cell_below hb g0a; clear hb))
            have HP := Aside0.mk ((HG.out.below N1.out).below N2.out)
            clear c2g g0 c2a g0a v0 v1
            have c0 := (ch_cell HP.out.e1).1
            have xc1 := (cq_cell HP.out.e0).2.1
            rw [HA1.out] at xc1
            have htr : 0 ≤ rx.f0 ∧ rx.f0 < (C.l1.length : Int) := by have := HB.out.1; unfold isTB at this; exact of_decide_eq_true this
            obtain ⟨ht0, ht1⟩ := htr
            obtain ⟨ad8, eA8, ty, ty1⟩ := at_T97 (HC.out.below HP.out.b).r1 rx.f0 ht0 ht1
            obtain rfl : A1 = some ad8 := HA1.out.symm.trans eA8
            have hlb := HT.out.lab HB.out.1
            obtain ⟨ow, how⟩ : ∃ t, (rd_T97 C.l1 rx.f0).f0 = t := ⟨_, rfl⟩
            rw [how] at ty hlb
            have HOW : Aside0 (labT C rx.f0 = ow ∧ 0 ≤ ow ∧ ow < (C.l0.length : Int) ∧ ow < 64) := ⟨⟨how, hlb.1, hlb.2, by have := HXL.out.2; omega⟩⟩
            clear how hlb ty1
            obtain ⟨fb, hfb⟩ : ∃ b, hasBit (rd C.l0 x.f0) ow = b := ⟨_, rfl⟩
            have HFB := Aside0.mk hfb
            have HE2 : Aside0 (recE C x m = if fb = false then 44 else if anyTo (recCr C x m) m = true then 44 else 0) := ⟨by rw [HE.out, if_neg (by decide), if_neg (by decide), HOW.out.1, hfb]⟩
            clear hfb
            cases fb with
            | false =>
              have HV : Aside0 (recE C x m = 44) := ⟨by rw [HE2.out]; rfl⟩
              go_wp2_with (first | ((with_reducible refine gate_ (.load 122 (.tmp 2)) rfl ?_); (try (refine gate_guard (by rfl) ?_; dsimp only)); refine load_blk rfl 122 (.tmp 2) rfl w.heap.size _ 122 rfl _ (HP.out.e0) Tryd.underlying122 rfl (by kernel_rfl) ?_) | (go_at_call 111; (with_reducible refine (flo2_calls C x.f0 ow _ (HC.out.below (HP.out.b)) HL.out HXL.out.1.1 HXL.out.1.2 HOW.out.2.1 HOW.out.2.2.2).mono ?_); rintro e wf ⟨rfl, hb⟩; rw [HFB.out]; have N3 := Aside0.mk hb; clear hb))
              go_ret
              exact ⟨by rw [← HQ.out]; rw [show recF C x = 44 from (snd_hit (f := recE C x) (i := m) (by rw [HV.out]; decide) (by have := H1.out; omega) hS.out.2.2).trans (HV.out)]; rfl, HP.out.b.trans (N3.out.mono HP.out.b.size)⟩
            | true =>
              go_upto_region 10 with (first | ((with_reducible refine gate_ (.load 122 (.tmp 2)) rfl ?_); (try (refine gate_guard (by rfl) ?_; dsimp only)); refine load_blk rfl 122 (.tmp 2) rfl w.heap.size _ 122 rfl _ (HP.out.e0) Tryd.underlying122 rfl (by kernel_rfl) ?_) | (go_at_call 111; (with_reducible refine (flo2_calls C x.f0 ow _ (HC.out.below (HP.out.b)) HL.out HXL.out.1.1 HXL.out.1.2 HOW.out.2.1 HOW.out.2.2.2).mono ?_); rintro e wf ⟨rfl, hb⟩; rw [HFB.out]; have N3 := Aside0.mk hb; clear hb))
              have HF := Aside0.mk (HP.out.below N3.out)
              have HCX : Aside0 (anyTo (recCr C x m) m = true → recE C x m = 44) := ⟨fun h => by rw [HE2.out, if_neg (by decide), if_pos h]⟩
              have HOK : Aside0 (anyTo (recCr C x m) m = false → recE C x m = 0) := ⟨fun h => by rw [HE2.out, if_neg (by decide), h, if_neg (by decide)]⟩
              have K0 : Aside0 (RecK C x wf m 0 wf) := ⟨⟨Below.refl _ _, Nat.zero_le _, fun j hj => absurd hj (by omega)⟩⟩
              clear c0 ty xc1 g0b
              have c2 := (ch_cell HF.out.e1).2.2
              generalize hwg : wf = wz at HF K0 c2 ⊢
              clear hwg
              go_wp2_with fail
              go_loopw [10, 11, 53] (fun _ _ k wj => ∃ j : Nat, k = .int .i64 (j : Int) ∧ Aside0 (RecK C x wz m j wj)) (fun _ _ k _ => m - (intOf k).toNat)
              case atStart => exact ⟨0, rfl, K0⟩
              case round =>
                clear K0 c2
                obtain ⟨k, rfl, hK⟩ := hrel
                have HR : Aside0 (LQ C #[.int .i64 x.f0, .slice B1 x.f1.length b1, .slice (some ad) x.f2.length b2] w wr) := ⟨HF.out.below hK.out.1⟩
                have hmk : x.f2.length ≤ 1000 := HX.out.1
                by_cases h3 : (k : Int) < (m : Int)
                · have e3 : decide ((k : Int) < (m : Int)) = true := decide_eq_true h3
                  have H3 := Aside0.mk h3
                  have h30 : (0 : Int) ≤ (k : Int) := by omega
                  have h31 : (k : Int) < (x.f2.length : Int) := by have := H1.out; omega
                  obtain ⟨ad9, eB9, v0, v1⟩ := at_T105 (Kd.C_below HX.out.2 HR.out.b) (k : Int) h30 h31
                  cases eB9
                  rw [Int.toNat_natCast] at v0 v1
                  obtain ⟨ry, hry⟩ : ∃ t, rd_T105 x.f2 (k : Int) = t := ⟨_, rfl⟩
                  have HKT : Aside0 (recT x k = ry.f0) := ⟨by unfold recT; rw [hry]⟩
                  rw [hry] at v0 v1
                  clear hry
                  have hkb := recE_ten (hS.out.2.2 k (by have := H3.out; omega))
                  rw [HKT.out] at hkb
                  have hkl := HT.out.lab hkb
                  have htr : 0 ≤ ry.f0 ∧ ry.f0 < (C.l1.length : Int) := by unfold isTB at hkb; exact of_decide_eq_true hkb
                  obtain ⟨hk0, hk1⟩ := htr
                  go_upto_region 13 with fail
                  have BK : Aside0 (Below wr.heap.size wr (wr.alloc (.cells #[.int .i64 ry.f0, .bool ry.f1] 105))) := ⟨(Below.refl _ _).alloc (Nat.le_refl _) _⟩
                  have EK : Aside0 ((wr.alloc (.cells #[.int .i64 ry.f0, .bool ry.f1] 105)).heap[wr.heap.size]? = some (.cells #[.int .i64 ry.f0, .bool ry.f1] 105 (0, 0))) := ⟨World.alloc_heap_new _ _⟩
                  generalize wr.alloc (.cells #[.int .i64 ry.f0, .bool ry.f1] 105) = wk at BK EK ⊢
                  have HPQ := Aside0.mk (HR.out.below BK.out)
                  have q0 : wk.cell? ⟨wr.heap.size, 0, none⟩ = some (.int .i64 ry.f0) := by simp [World.cell?, EK.out]
                  have xc1 := (cq_cell HPQ.out.e0).2.1
                  rw [HA1.out] at xc1
                  obtain ⟨ad8, eA8, ty, ty1⟩ := at_T97 (HC.out.below HPQ.out.b).r1 ry.f0 hk0 hk1
                  cases HA1.out.symm.trans eA8
                  obtain ⟨ob, hob⟩ : ∃ t, (rd_T97 C.l1 ry.f0).f0 = t := ⟨_, rfl⟩
                  rw [hob] at ty hkl
                  have HOB : Aside0 (labT C (recT x k) = ob ∧ 0 ≤ ob ∧ ob < (C.l0.length : Int) ∧ ob < 64) := ⟨⟨by unfold labT; rw [HKT.out]; exact hob, hkl.1, hkl.2, by have := HXL.out.2; omega⟩⟩
                  clear hob hkl ty1 hkb
                  obtain ⟨f1, hf1⟩ : ∃ b, hasBit (rd C.l0 ob) ow = b := ⟨_, rfl⟩
                  obtain ⟨f2, hf2⟩ : ∃ b, hasBit (rd C.l0 ow) ob = b := ⟨_, rfl⟩
                  have HFF := Aside0.mk (And.intro hf1 hf2)
                  have HCR : Aside0 (recCr C x m k = !(f1 && f2)) := ⟨by unfold recCr; rw [HOB.out.1, HRT.out, HOW.out.1, hf1, hf2]⟩
                  clear hf1 hf2
                  cases f1 with
                  | false =>
                    go_wp2_with (first | ((with_reducible refine gate_ (.load 122 (.tmp 2)) rfl ?_); (try (refine gate_guard (by rfl) ?_; dsimp only)); refine load_blk rfl 122 (.tmp 2) rfl w.heap.size _ 122 rfl _ (by first | exact HPQ.out.e0 | exact (HPQ.out.below N4.out).e0) Tryd.underlying122 rfl (by kernel_rfl) ?_) | (go_at_call 111; (with_reducible refine (flo2_calls C ob ow _ (HC.out.below (HPQ.out.b)) HL.out HOB.out.2.1 HOB.out.2.2.1 HOW.out.2.1 HOW.out.2.2.2).mono ?_); rintro e wh ⟨rfl, hb⟩; rw [HFF.out.1]; have N4 := Aside0.mk hb; clear hb))
                    go_ret
                    exact ⟨by rw [← HQ.out]; rw [show recF C x = 44 from (snd_hit (f := recE C x) (i := m) (by rw [HCX.out (anyTo_hit (k := k) (by rw [HCR.out]; rfl) m (by have := H3.out; omega))]; decide) (by have := H1.out; omega) hS.out.2.2).trans (HCX.out (anyTo_hit (k := k) (by rw [HCR.out]; rfl) m (by have := H3.out; omega)))]; rfl, HPQ.out.b.trans (N4.out.mono HPQ.out.b.size)⟩
                  | true =>
                    cases f2 with
                    | false =>
                      go_wp2_with (first | ((with_reducible refine gate_ (.load 122 (.tmp 2)) rfl ?_); (try (refine gate_guard (by rfl) ?_; dsimp only)); refine load_blk rfl 122 (.tmp 2) rfl w.heap.size _ 122 rfl _ (by first | exact HPQ.out.e0 | exact (HPQ.out.below N4.out).e0) Tryd.underlying122 rfl (by kernel_rfl) ?_) | (go_at_call 111; (with_reducible refine (flo2_calls C ob ow _ (HC.out.below (HPQ.out.b)) HL.out HOB.out.2.1 HOB.out.2.2.1 HOW.out.2.1 HOW.out.2.2.2).mono ?_); rintro e wh ⟨rfl, hb⟩; rw [HFF.out.1]; have N4 := Aside0.mk hb; clear hb) | (go_at_call 111; (with_reducible refine (flo2_calls C ow ob _ (HC.out.below ((HPQ.out.below N4.out).b)) HL.out HOW.out.2.1 HOW.out.2.2.1 HOB.out.2.1 HOB.out.2.2.2).mono ?_); rintro e wi ⟨rfl, hb⟩; rw [HFF.out.2]; have N5 := Aside0.mk hb; clear hb))
                      go_ret
                      exact ⟨by rw [← HQ.out]; rw [show recF C x = 44 from (snd_hit (f := recE C x) (i := m) (by rw [HCX.out (anyTo_hit (k := k) (by rw [HCR.out]; rfl) m (by have := H3.out; omega))]; decide) (by have := H1.out; omega) hS.out.2.2).trans (HCX.out (anyTo_hit (k := k) (by rw [HCR.out]; rfl) m (by have := H3.out; omega)))]; rfl, (HPQ.out.below N4.out).b.trans (N5.out.mono (HPQ.out.below N4.out).b.size)⟩
                    | true =>
                      go_wp2_with (first | ((with_reducible refine gate_ (.load 122 (.tmp 2)) rfl ?_); (try (refine gate_guard (by rfl) ?_; dsimp only)); refine load_blk rfl 122 (.tmp 2) rfl w.heap.size _ 122 rfl _ (by first | exact HPQ.out.e0 | exact (HPQ.out.below N4.out).e0) Tryd.underlying122 rfl (by kernel_rfl) ?_) | (go_at_call 111; (with_reducible refine (flo2_calls C ob ow _ (HC.out.below (HPQ.out.b)) HL.out HOB.out.2.1 HOB.out.2.2.1 HOW.out.2.1 HOW.out.2.2.2).mono ?_); rintro e wh ⟨rfl, hb⟩; rw [HFF.out.1]; have N4 := Aside0.mk hb; clear hb) | (go_at_call 111; (with_reducible refine (flo2_calls C ow ob _ (HC.out.below ((HPQ.out.below N4.out).b)) HL.out HOW.out.2.1 HOW.out.2.2.1 HOB.out.2.1 HOB.out.2.2.2).mono ?_); rintro e wi ⟨rfl, hb⟩; rw [HFF.out.2]; have N5 := Aside0.mk hb; clear hb))
                      go_roundw
                      case rel => exact ⟨k + 1, by go_num, ⟨hK.out.1.trans ((BK.out.trans ((N4.out.trans (N5.out.mono N4.out.size)).mono BK.out.size)).mono hK.out.1.size), by have := H3.out; omega, fun j hj => by
                        by_cases e : j = k
                        · subst e; rw [HCR.out]; rfl
                        · exact hK.out.2.2 j (by omega)⟩⟩
                      case measure => simp [intOf]; have := H3.out; omega
                · have e3 : decide ((k : Int) < (m : Int)) = false := decide_eq_false h3
                  have H3 := Aside0.mk h3
                  have hnx : anyTo (recCr C x m) m = false := anyTo_none m (fun j hj => hK.out.2.2 j (by have := hK.out.2.1; omega))
                  have HNX := Aside0.mk hnx
                  clear hnx
                  go_wp2_with fail
                  go_roundw
                  case rel => exact ⟨m + 1, by go_num, ⟨HR.out, by have := H1.out; omega, fun j hj => by
                    by_cases e : j = m
                    · subst e; exact HOK.out HNX.out
                    · exact hS.out.2.2 j (by omega)⟩⟩
                  case measure => simp [intOf]; have := H1.out; omega
      · have e1 : decide ((m : Int) < (x.f2.length : Int)) = false := decide_eq_false h1
        have H1 := Aside0.mk h1
        go_wp2_with fail
        go_ret
        exact ⟨by rw [← HQ.out]; rw [show recF C x = 0 from snd_none (fun j hj => hS.out.2.2 j (by have := H1.out; omega))]; rfl, hS.out.1.b⟩
  exact key _ rfl
def ChaQ (C : Cf) (w : World) (m : Nat) (wr : World) : Prop := TQ C w wr ∧ m ≤ C.l2.length ∧ ∀ j, j < m → chE C j = 0
set_option maxRecDepth 100000 in
set_option maxHeartbeats 2000000 in
theorem channels2_calls (C : Cf) (w : World) (hC : C.At w) (hL : C.Lim) (hT : TenOK C) (h16 : C.l0.length ≤ 16) : Calls Tryd.prog 79 #[.agg C.v] w fun e w' => e = .returned (.agg #[.int .i64 (chaF C).1, .int .i64 (chaF C).2]) ∧ Below w.heap.size w w' := by
  have HC := Aside0.mk hC
  have HL := Aside0.mk hL
  clear hC hL
  have HTO := Aside0.mk hT
  have H16 := Aside0.mk h16
  clear hT h16
  have key : ∀ q : Int × Int, chaF C = q → Calls Tryd.prog 79 #[.agg C.v] w fun e w' => e = .returned (.agg #[.int .i64 q.1, .int .i64 q.2]) ∧ Below w.heap.size w w' := by
    rintro ⟨qn, qe⟩ hq
    have HQ := Aside0.mk hq
    clear hq
    go_enter Tryd.func79, Tryd.ntmps79
    go_upto_region 1 with fail
    have HT := Aside0.mk (TQ.start C w)
    generalize ((w.alloc (.cells C.v 122)).alloc (.cells #[.int .i64 0, .int .i64 0] 126)) = w2 at HT ⊢
    obtain ⟨z0, z1, f0, f1⟩ := HT.out.r
    obtain ⟨A2, hA2⟩ : ∃ A, C.A2 = A := ⟨_, rfl⟩
    have HA2 := Aside0.mk hA2
    clear hA2
    have x2 := (cq_cell HT.out.e0).2.2.1
    rw [HA2.out] at x2
    by_cases h32 : C.l2.length > 32
    · have d1 : decide ((C.l2.length : Int) > 32) = true := decide_eq_true (by omega)
      have d1' : decide (32 < C.l2.length) = true := decide_eq_true h32
      have e : chaF C = (0, 3) := by unfold chaF; exact if_pos h32
      rw [HQ.out] at e
      simp only [Prod.mk.injEq] at e
      obtain ⟨rfl, rfl⟩ := e
      go_wp2_with fail
      obtain ⟨g0, g1, g2⟩ := HT.out.fin 0 3
      generalize ((w2.setCell ⟨w.heap.size + 1, 0, none⟩ (.int .i64 0)).setCell ⟨w.heap.size + 1, 1, none⟩ (.int .i64 3)) = w3 at g0 g1 g2 ⊢
      exact bodyPost_ret (v := .agg #[.int .i64 0, .int .i64 3]) (by simp [results, Tryd.results79, go_sem, g1, g2]) rfl ⟨rfl, g0⟩
    · have d1 : decide ((C.l2.length : Int) > 32) = false := decide_eq_false (by omega)
      have d1' : decide (32 < C.l2.length) = false := decide_eq_false h32
      have e : chaF C = toldOf (scan (chE C) 0 C.l2.length) := by unfold chaF; exact if_neg h32
      have HE := Aside0.mk (HQ.out.symm.trans e)
      clear e
      have H0 : Aside0 (ChaQ C w 0 w2) := ⟨⟨HT.out, Nat.zero_le _, fun j hj => absurd hj (by omega)⟩⟩
      go_wp2_with fail
      go_loopw [3, 4, 5, 6, 17] (fun _ _ _ _ i wr => ∃ m : Nat, i = .int .i64 (m : Int) ∧ Aside0 (ChaQ C w m wr)) (fun _ _ _ _ i _ => C.l2.length - (intOf i).toNat)
      case atStart => exact ⟨0, rfl, H0⟩
      case round =>
        clear H0 HT z0 z1 f0 f1 x2
        obtain ⟨m, rfl, hS⟩ := hrel
        have x2 := (cq_cell hS.out.1.e0).2.2.1
        rw [HA2.out] at x2
        obtain ⟨z0, z1, f0, f1⟩ := hS.out.1.r
        have hlim : C.l2.length ≤ 1000 := HL.out.l2.1
        by_cases h1 : (m : Int) < (C.l2.length : Int)
        · have e1 : decide ((m : Int) < (C.l2.length : Int)) = true := decide_eq_true h1
          have H1 := Aside0.mk h1
          have h00 : (0 : Int) ≤ (m : Int) := by omega
          obtain ⟨ad, B1, b1, B2, b2, eA, y0, y1, y2, q1, q2, q3, q4⟩ := at_T87 (HC.out.below hS.out.1.b).r2 (m : Int) h00 h1
          obtain rfl : A2 = some ad := HA2.out.symm.trans eA
          rw [Int.toNat_natCast] at y0 y1 y2
          have hlen := HL.out.l2.at m
          obtain ⟨lx, hlx⟩ : ∃ x, rd_T87 C.l2 (m : Int) = x := ⟨_, rfl⟩
          rw [hlx] at y0 y1 y2 q1 q2 q3 q4 hlen
          have HLX := Aside0.mk hlx
          have HR := Aside0.mk (And.intro q2 q4)
          have HQQ := Aside0.mk (And.intro q1 q3)
          have HLEN := Aside0.mk hlen
          clear hlx q1 q2 q3 q4 eA hlen
          obtain ⟨p1, hp1⟩ : ∃ b, isLB C lx.f0 = b := ⟨_, rfl⟩
          obtain ⟨le, hle⟩ : ∃ b, lanF C lx = b := ⟨_, rfl⟩
          obtain ⟨re, hre⟩ : ∃ b, recF C lx = b := ⟨_, rfl⟩
          have HB := Aside0.mk hp1
          have HLF := Aside0.mk hle
          have HRF := Aside0.mk hre
          have HCE : Aside0 (chE C m = if p1 = false then 41 else if le = 0 then re else le) := ⟨by unfold chE; rw [HLX.out, hp1, hle, hre]⟩
          clear hp1 hle hre
          go_upto_region 6 with fail
          have BG : Aside0 (Below wr.heap.size wr (wr.alloc (.cells #[.int .i64 lx.f0, .slice B1 lx.f1.length b1, .slice B2 lx.f2.length b2] 87))) := ⟨(Below.refl _ _).alloc (Nat.le_refl _) _⟩
          have EG : Aside0 ((wr.alloc (.cells #[.int .i64 lx.f0, .slice B1 lx.f1.length b1, .slice B2 lx.f2.length b2] 87)).heap[wr.heap.size]? = some (.cells #[.int .i64 lx.f0, .slice B1 lx.f1.length b1, .slice B2 lx.f2.length b2] 87 (0, 0))) := ⟨World.alloc_heap_new _ _⟩
          generalize wr.alloc (.cells #[.int .i64 lx.f0, .slice B1 lx.f1.length b1, .slice B2 lx.f2.length b2] 87) = wg at BG EG ⊢
          have HG := Aside0.mk (hS.out.1.below BG.out)
          have g0 := (ch_cell EG.out).1
          cases p1 with
          | false =>
            go_upto_region 7 with (first | ((with_reducible refine gate_ (.load 122 (.tmp 1)) rfl ?_); refine load_blk rfl 122 (.tmp 1) rfl w.heap.size _ 122 rfl _ (by exact HG.out.e0) Tryd.underlying122 rfl (by kernel_rfl) ?_) | (go_at_call 99; refine (lab2_calls C lx.f0 _ HL.out.l0).mono ?_; rintro e wa ⟨rfl, hb⟩; rw [HB.out]; have N1 := Aside0.mk hb; clear hb))
            have HT2 := Aside0.mk (HG.out.below N1.out)
            obtain ⟨u0, u1, s0, s1⟩ := HT2.out.r
            go_wp2_with fail
            have hpf : chE C m = 41 := HCE.out.trans (if_pos (by trivial))
            have eq := HE.out.trans (told_hit (f := chE C) (i := m) (by rw [hpf]; decide) (by have := H1.out; omega) hS.out.2.2)
            rw [hpf] at eq
            simp only [Prod.mk.injEq] at eq
            obtain ⟨rfl, hqe⟩ := eq
            subst qe
            obtain ⟨g0, g1, g2⟩ := HT2.out.fin (m : Int) 41
            generalize ((wa.setCell ⟨w.heap.size + 1, 0, none⟩ (.int .i64 (m : Int))).setCell ⟨w.heap.size + 1, 1, none⟩ (.int .i64 41)) = w3 at g0 g1 g2 ⊢
            exact bodyPost_ret (v := .agg #[.int .i64 (m : Int), .int .i64 41]) (by simp [results, Tryd.results79, go_sem, g1, g2]) rfl ⟨rfl, g0⟩
          | true =>
            go_upto_region 8 with (first | ((with_reducible refine gate_ (.load 122 (.tmp 1)) rfl ?_); refine load_blk rfl 122 (.tmp 1) rfl w.heap.size _ 122 rfl _ (by exact HG.out.e0) Tryd.underlying122 rfl (by kernel_rfl) ?_) | (go_at_call 99; refine (lab2_calls C lx.f0 _ HL.out.l0).mono ?_; rintro e wa ⟨rfl, hb⟩; rw [HB.out]; have N1 := Aside0.mk hb; clear hb))
            have HA := Aside0.mk (HG.out.below N1.out)
            have HGA : Aside0 (Below wr.heap.size wr wa) := ⟨BG.out.trans (N1.out.mono BG.out.size)⟩
            have EA := Aside0.mk (obj_below N1.out EG.out)
            clear g0
            by_cases h3 : le = 0
            · have d3 : (le != 0) = false := by simpa using h3
              have d3' : decide (le = 0) = true := decide_eq_true h3
              have H3 := Aside0.mk h3
              clear h3
              by_cases h4 : re = 0
              · have d4 : (re != 0) = false := by simpa using h4
                have d4' : decide (re = 0) = true := decide_eq_true h4
                have HGOOD : Aside0 (chE C m = 0) := ⟨by rw [HCE.out, if_neg (by decide), if_pos H3.out]; exact h4⟩
                clear h4
                go_wp2_with (first | ((with_reducible refine gate_ (.load 122 (.tmp 1)) rfl ?_); refine load_blk rfl 122 (.tmp 1) rfl w.heap.size _ 122 rfl _ (by first | exact HA.out.e0 | exact (HA.out.below N2.out).e0) Tryd.underlying122 rfl (by kernel_rfl) ?_) | ((with_reducible refine gate_ (.load 87 (.tmp 4)) rfl ?_); refine load_blk rfl 87 (.tmp 4) rfl wr.heap.size _ 87 rfl _ (by first | exact EA.out | exact obj_below N2.out EA.out) Tryd.underlying87 rfl (by kernel_rfl) ?_) | (go_at_call 101; refine (lanes2_calls C lx B1 B2 b1 b2 _ (HC.out.below HA.out.b) HL.out HTO.out H16.out HB.out HLEN.out.1 HQQ.out.1 (Kd.C_below HR.out.1 (HGA.out))).mono ?_; rintro e wb ⟨rfl, hb⟩; rw [HLF.out]; have N2 := Aside0.mk hb; clear hb) | (go_at_call 102; refine (receivers2_calls C lx B1 B2 b1 b2 _ (HC.out.below (HA.out.below N2.out).b) HL.out HTO.out H16.out HB.out HLEN.out.2 HQQ.out.2 (Kd.C_below HR.out.2 (HGA.out.trans (N2.out.mono HGA.out.size)))).mono ?_; rintro e wc ⟨rfl, hb⟩; rw [HRF.out]; have N3 := Aside0.mk hb; clear hb))
                go_roundw
                case rel => exact ⟨m + 1, by go_num, ⟨(HA.out.below N2.out).below N3.out, by have := H1.out; omega, fun j hj => by
                  by_cases e : j = m
                  · subst e; exact HGOOD.out
                  · exact hS.out.2.2 j (by omega)⟩⟩
                case measure => simp [intOf]; have := H1.out; omega
              · have d4 : (re != 0) = true := by simpa using h4
                have d4' : decide (re = 0) = false := decide_eq_false h4
                have H4 := Aside0.mk h4
                clear h4
                go_upto_region 13 with (first | ((with_reducible refine gate_ (.load 122 (.tmp 1)) rfl ?_); refine load_blk rfl 122 (.tmp 1) rfl w.heap.size _ 122 rfl _ (by first | exact HA.out.e0 | exact (HA.out.below N2.out).e0) Tryd.underlying122 rfl (by kernel_rfl) ?_) | ((with_reducible refine gate_ (.load 87 (.tmp 4)) rfl ?_); refine load_blk rfl 87 (.tmp 4) rfl wr.heap.size _ 87 rfl _ (by first | exact EA.out | exact obj_below N2.out EA.out) Tryd.underlying87 rfl (by kernel_rfl) ?_) | (go_at_call 101; refine (lanes2_calls C lx B1 B2 b1 b2 _ (HC.out.below HA.out.b) HL.out HTO.out H16.out HB.out HLEN.out.1 HQQ.out.1 (Kd.C_below HR.out.1 (HGA.out))).mono ?_; rintro e wb ⟨rfl, hb⟩; rw [HLF.out]; have N2 := Aside0.mk hb; clear hb) | (go_at_call 102; refine (receivers2_calls C lx B1 B2 b1 b2 _ (HC.out.below (HA.out.below N2.out).b) HL.out HTO.out H16.out HB.out HLEN.out.2 HQQ.out.2 (Kd.C_below HR.out.2 (HGA.out.trans (N2.out.mono HGA.out.size)))).mono ?_; rintro e wc ⟨rfl, hb⟩; rw [HRF.out]; have N3 := Aside0.mk hb; clear hb))
                have HT2 := Aside0.mk ((HA.out.below N2.out).below N3.out)
                obtain ⟨u0, u1, s0, s1⟩ := HT2.out.r
                go_wp2_with fail
                have hpf : chE C m = re := by rw [HCE.out, if_neg (by decide), if_pos H3.out]
                have eq := HE.out.trans (told_hit (f := chE C) (i := m) (by rw [hpf]; exact H4.out) (by have := H1.out; omega) hS.out.2.2)
                rw [hpf] at eq
                simp only [Prod.mk.injEq] at eq
                obtain ⟨rfl, hqe⟩ := eq
                subst qe
                obtain ⟨g0, g1, g2⟩ := HT2.out.fin (m : Int) re
                generalize ((wc.setCell ⟨w.heap.size + 1, 0, none⟩ (.int .i64 (m : Int))).setCell ⟨w.heap.size + 1, 1, none⟩ (.int .i64 re)) = w3 at g0 g1 g2 ⊢
                exact bodyPost_ret (v := .agg #[.int .i64 (m : Int), .int .i64 re]) (by simp [results, Tryd.results79, go_sem, g1, g2]) rfl ⟨rfl, g0⟩
            · have d3 : (le == 0) = false := by simpa using h3
              have d3' : decide (le = 0) = false := decide_eq_false h3
              have d5 : (le != 0) = true := by simpa using h3
              have H3 := Aside0.mk h3
              clear h3
              go_upto_region 10 with (first | ((with_reducible refine gate_ (.load 122 (.tmp 1)) rfl ?_); refine load_blk rfl 122 (.tmp 1) rfl w.heap.size _ 122 rfl _ (by exact HA.out.e0) Tryd.underlying122 rfl (by kernel_rfl) ?_) | ((with_reducible refine gate_ (.load 87 (.tmp 4)) rfl ?_); refine load_blk rfl 87 (.tmp 4) rfl wr.heap.size _ 87 rfl _ (by exact EA.out) Tryd.underlying87 rfl (by kernel_rfl) ?_) | (go_at_call 101; refine (lanes2_calls C lx B1 B2 b1 b2 _ (HC.out.below HA.out.b) HL.out HTO.out H16.out HB.out HLEN.out.1 HQQ.out.1 (Kd.C_below HR.out.1 (HGA.out))).mono ?_; rintro e wb ⟨rfl, hb⟩; rw [HLF.out]; have N2 := Aside0.mk hb; clear hb))
              have HT2 := Aside0.mk (HA.out.below N2.out)
              obtain ⟨u0, u1, s0, s1⟩ := HT2.out.r
              go_wp2_with fail
              have hpf : chE C m = le := by rw [HCE.out, if_neg (by decide), if_neg H3.out]
              have eq := HE.out.trans (told_hit (f := chE C) (i := m) (by rw [hpf]; exact H3.out) (by have := H1.out; omega) hS.out.2.2)
              rw [hpf] at eq
              simp only [Prod.mk.injEq] at eq
              obtain ⟨rfl, hqe⟩ := eq
              subst qe
              obtain ⟨g0, g1, g2⟩ := HT2.out.fin (m : Int) le
              generalize ((wb.setCell ⟨w.heap.size + 1, 0, none⟩ (.int .i64 (m : Int))).setCell ⟨w.heap.size + 1, 1, none⟩ (.int .i64 le)) = w3 at g0 g1 g2 ⊢
              exact bodyPost_ret (v := .agg #[.int .i64 (m : Int), .int .i64 le]) (by simp [results, Tryd.results79, go_sem, g1, g2]) rfl ⟨rfl, g0⟩
        · have e1 : decide ((m : Int) < (C.l2.length : Int)) = false := decide_eq_false h1
          have H1 := Aside0.mk h1
          go_wp2_with fail
          have eq := HE.out.trans (told_none (fun j hj => hS.out.2.2 j (by have := H1.out; omega)))
          simp only [Prod.mk.injEq] at eq
          obtain ⟨rfl, rfl⟩ := eq
          obtain ⟨g0, g1, g2⟩ := hS.out.1.fin 0 0
          generalize ((wr.setCell ⟨w.heap.size + 1, 0, none⟩ (.int .i64 0)).setCell ⟨w.heap.size + 1, 1, none⟩ (.int .i64 0)) = w3 at g0 g1 g2 ⊢
          exact bodyPost_ret (v := .agg #[.int .i64 0, .int .i64 0]) (by simp [results, Tryd.results79, go_sem, g1, g2]) rfl ⟨rfl, g0⟩
  exact key _ rfl
end Go.Proofs.YtoliipbmcekciaaDoor.QDd

