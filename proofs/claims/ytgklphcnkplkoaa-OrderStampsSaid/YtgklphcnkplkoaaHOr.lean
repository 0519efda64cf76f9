/- OrderStamps: the law, walked by hand. -/
import Derived.Test.YtgklphcnkplkoaaGOr
import Derived.Test.YtgklphcnkplkoaaROr
namespace Go.Proofs.Ytgklphcnkplkoaa.QSt
open Go.RowKit Go.Proofs.YtgklphcnkplkoaaW.PrintWords Go.Proofs.YtgklphcnkplkoaaW.PrintLast Go.Proofs.YtgklphcnkplkoaaW.PrintMore
open Go.Proofs.Ytgklphcnkplkoaa.SK (St enc flat flat_len flat_get)
set_option linter.unusedVariables false
set_option linter.unusedSimpArgs false
theorem alive_T (w : World) : Calls Try.prog 12 #[] w fun e w' => e = .returned (.bool true) ∧ Below w.heap.size w w' := rampartlaw07_alive.calls 19 true w (by kernel_rfl)
theorem same_l (T : List S29) : ∀ (k : Nat) (x5 : Int), 0 ≤ x5 → x5 ≤ (T.length : Int) → T.length < 100 → (T.length : Int) - x5 < k → rampartref07_Same.l0 k T T x5 = some true
  | 0, x5, _, h, _, g => by omega
  | k + 1, x5, h0, h1, h40, g => by
    unfold rampartref07_Same.l0
    by_cases h : x5 < (T.length : Int)
    · rw [if_pos h, if_pos h0, if_pos h, if_neg (by simp), show wrap64 (x5 + 1) = x5 + 1 by unfold wrap64; omega]
      exact same_l T k (x5 + 1) (by omega) (by omega) h40 (by omega)
    · rw [if_neg h]
def toS (x : St) : S29 := ⟨x.1, x.2⟩
theorem same_T (T : List St) (A1 : Option Addr) (c1 : Nat) (A2 : Option Addr) (c2 : Nat) (w : World) (h1 : Kd.C kS w A1 T.length T) (g1 : T.length ≤ c1) (h2 : Kd.C kS w A2 T.length T) (g2 : T.length ≤ c2) (h40 : T.length < 100) :
    Calls Try.prog 27 #[.slice A1 T.length c1, .slice A2 T.length c2] w fun e w' => e = .returned (.bool true) ∧ Below w.heap.size w w' := by
  have hk : ∀ (w : World) (x : St) (cs : List Value), kS.K w x cs → k29.K w (toS x) cs := fun w x cs h => by
    rw [kS_open h]
    exact k29_mk w (toS x)
  have e1 := C_map (d' := k29) toS rfl hk h1
  have e2 := C_map (d' := k29) toS rfl hk h2
  have hl : (T.map toS).length = T.length := List.length_map _
  rw [← hl] at e1 e2 g1 g2
  have := rampartref07_Same.calls (T.length + 1) A1 c1 (T.map toS) A2 c2 (T.map toS) true w e1 g1 e2 g2 (by
    unfold rampartref07_Same.f
    rw [if_pos rfl]
    exact same_l (T.map toS) _ 0 (by omega) (by omega) (by rw [hl]; exact h40) (by rw [hl]; omega))
  rw [hl] at this
  exact this.mono (fun e w' h => ⟨h.1, h.2.below⟩)
set_option maxRecDepth 100000 in
set_option maxHeartbeats 8000000 in
theorem Stamps_walk (A : Option Addr) (c : Nat) (L0 : List St) (x y : St) (W : World) (hr : Kd.C kS W A L0.length L0) (hc : L0.length ≤ c) :
    Calls Try.prog 9 #[.slice A L0.length c, .agg (cS x), .agg (cS y)] W fun e w' => e = .returned (.bool true) ∧ Below W.heap.size W w' := by
  have HR0 := Aside0.mk hr
  obtain ⟨q, hq⟩ : ∃ q, cmpI x y = q := ⟨_, rfl⟩
  have HQ := Aside0.mk hq
  clear hr hq
  by_cases h40 : 40 < L0.length
  · have d1 : decide ((40 : Int) < (L0.length : Int)) = true := decide_eq_true (by omega)
    have d2 : decide (40 < L0.length) = true := decide_eq_true h40
    have f1 : 40 ≤ c := by omega
    have f2 : 40 ≤ L0.length := by omega
    obtain ⟨L, hL⟩ : ∃ L, L = L0.take 40 := ⟨_, rfl⟩
    have hl : L.length = 40 := by rw [hL, List.length_take]; omega
    have HL0 : Aside0 (Kd.C kS W A L.length L ∧ L.length ≤ c ∧ L.length ≤ 40) := ⟨by rw [hl, hL]; exact C_take2 HR0.out 40 f2, by omega, by omega⟩
    have e40 : (Value.slice A 40 c) = .slice A L.length c := by rw [hl]
    clear hl hL h40 hc
    go_enter Try.func9, Try.ntmps9
    go_upto_region 3 with fail

    try rw [e40]
    clear e40 d1 d2 f1 f2
    obtain ⟨T, hT⟩ : ∃ T, cptN (0, 0) (srt L) (srt L).length = T := ⟨_, rfl⟩
    have HT := Aside0.mk hT
    have HT40 : T.length < 100 := by rw [← hT]; have := cptN_le (0, 0) (srt L) (srt L).length; rw [srt_len] at this; have := HL0.out.2.2; rw [srt_len]; omega
    clear hT
    have HW : Aside0 (Below W.heap.size W ((W.alloc (.cells (cS x) 29)).alloc (.cells (cS y) 29))) := ⟨((Below.refl _ _).alloc (Nat.le_refl _) _).alloc (by rw [World.size_alloc]; omega) _⟩
    have HB : Aside0 (((W.alloc (.cells (cS x) 29)).alloc (.cells (cS y) 29)).heap[W.heap.size]? = some (.cells (cS x) 29 (0, 0)) ∧ ((W.alloc (.cells (cS x) 29)).alloc (.cells (cS y) 29)).heap[W.heap.size + 1]? = some (.cells (cS y) 29 (0, 0))) := ⟨by
      refine obj_below ((Below.refl _ _).alloc (Nat.le_refl _) _) (World.alloc_heap_new _ _), by
      have := World.alloc_heap_new (W.alloc (.cells (cS x) 29)) (.cells (cS y) 29)
      rwa [World.size_alloc] at this⟩
    have HL : Aside0 (Kd.C kS ((W.alloc (.cells (cS x) 29)).alloc (.cells (cS y) 29)) A L.length L ∧ L.length ≤ c ∧ L.length ≤ 40) := ⟨Kd.C_below HL0.out.1 HW.out, HL0.out.2⟩
    generalize (W.alloc (.cells (cS x) 29)).alloc (.cells (cS y) 29) = wr at HW HB HL ⊢
    refine wp_region_held_drew (S := fun w' => Below wr.heap.size wr w') (by kernel_rfl) (pw_below_drewN (Below.refl _ _) 1) (fun hHeld => ?_)
    generalize wr.drew = wd at hHeld ⊢
    refine tk (i := 0) (v := _) 12 rfl (yields_blk (by rfl) 29 (.tmp 4) rfl (W.heap.size) (cS x) 29 rfl _ (fun w' hW => obj_below hW HB.out.1) Try.underlying29 rfl (by kernel_rfl)) hHeld ?_
    try simp only [putL, putN, List.set]
    refine tk (i := 1) (v := _) 13 rfl (yields_blk (by rfl) 29 (.tmp 5) rfl (W.heap.size + 1) (cS y) 29 rfl _ (fun w' hW => obj_below hW HB.out.2) Try.underlying29 rfl (by kernel_rfl)) hHeld ?_
    try simp only [putL, putN, List.set]
    refine tk (i := 3) (v := _) 15 rfl (yields_blk (by rfl) 29 (.tmp 4) rfl (W.heap.size) (cS x) 29 rfl _ (fun w' hW => obj_below hW HB.out.1) Try.underlying29 rfl (by kernel_rfl)) hHeld ?_
    try simp only [putL, putN, List.set]
    refine tk (i := 4) (v := _) 16 rfl (yields_blk (by rfl) 29 (.tmp 5) rfl (W.heap.size + 1) (cS y) 29 rfl _ (fun w' hW => obj_below hW HB.out.2) Try.underlying29 rfl (by kernel_rfl)) hHeld ?_
    try simp only [putL, putN, List.set]
    have N0 := Aside0.mk hHeld
    refine wpAnyH_ready (rs := [2]) (by kernel_rfl) (by simp) ?_
    refine AllReadyH.cons rfl (fun K hK => ?_) AllReadyH.nil
    go_simp
    go_wp2_with (first | (go_at_call 25; refine (ocmp_calls x y _).mono ?_; rintro e wc ⟨rfl, hb⟩; rw [HQ.out]; have N1 := Aside0.mk (below_step N0.out hb); clear hb))
    clear hHeld
    refine hK.out _ _ N1.out (fun hHeld => ?_)
    clear hK K
    try simp only [putL, putN, List.set]
    refine wpAnyH_ready (rs := [5]) (by kernel_rfl) (by simp) ?_
    refine AllReadyH.cons rfl (fun K hK => ?_) AllReadyH.nil
    go_simp
    go_wp2_with (first | (go_at_call 26; refine (rcmp_calls x y _).mono ?_; rintro e wc ⟨rfl, hb⟩; rw [HQ.out]; have N2 := Aside0.mk (below_step N1.out hb); clear hb))
    clear hHeld
    refine hK.out _ _ N2.out (fun hHeld => ?_)
    clear hK K
    try simp only [putL, putN, List.set]
    refine tk (i := 6) (v := .bool true) 18 rfl (Or.inl ⟨by rfl, fun w' hW => by go_simp; try (first | with_reducible rfl | rfl | (simp; done))⟩) hHeld ?_
    try simp only [putL, putN, List.set]
    refine tk (i := 7) (v := _) 19 rfl (Or.inl ⟨by rfl, fun w' hW => by go_simp; try (first | with_reducible rfl | rfl)⟩) hHeld ?_
    try simp only [putL, putN, List.set]
    refine tk (i := 8) (v := _) 20 rfl (Or.inl ⟨by rfl, fun w' hW => by go_simp; try (first | with_reducible rfl | rfl)⟩) hHeld ?_
    try simp only [putL, putN, List.set]
    refine tk (i := 10) (v := _) 22 rfl (Or.inl ⟨by rfl, fun w' hW => by go_simp; try (first | with_reducible rfl | rfl)⟩) hHeld ?_
    try simp only [putL, putN, List.set]
    refine wpAnyH_ready (rs := [9]) (by kernel_rfl) (by simp) ?_
    refine AllReadyH.cons rfl (fun K hK => ?_) AllReadyH.nil
    go_simp
    go_wp2_with (first | (go_at_call 28; refine (Sorted_calls A c L _ (Kd.C_below HL.out.1 N2.out) HL.out.2.1 HL.out.2.2).mono ?_; rintro e wc ⟨v, rfl, hR, hb⟩; rw [HT.out] at hR; obtain ⟨A1, c1, rfl, hc1, hC1⟩ := Kd.R_reads hR; have N3 := Aside0.mk (below_step N2.out hb); have P1 := Aside0.mk (And.intro hc1 hC1); clear hb hR hc1 hC1))
    clear hHeld
    refine hK.out _ _ N3.out (fun hHeld => ?_)
    clear hK K
    try simp only [putL, putN, List.set]
    refine wpAnyH_ready (rs := [11]) (by kernel_rfl) (by simp) ?_
    refine AllReadyH.cons rfl (fun K hK => ?_) AllReadyH.nil
    go_simp
    go_wp2_with (first | (go_at_call 29; refine (RSorted_calls A c L _ (Kd.C_below HL.out.1 N3.out) HL.out.2.1 HL.out.2.2).mono ?_; rintro e wc ⟨v, T', rfl, hR, hp, hm, _, hb⟩; have eT : T' = T := ((cpt_srt L T' hp hm).symm.trans HT.out); rw [eT] at hR; obtain ⟨A2, c2, rfl, hc2, hC2⟩ := Kd.R_reads hR; have N4 := Aside0.mk (below_step N3.out hb); have P2 := Aside0.mk (And.intro hc2 hC2); have Q1 := Aside0.mk (And.intro P1.out.1 (Kd.C_below P1.out.2 hb)); clear hb hR hp hm hc2 hC2 eT))
    clear hHeld
    refine hK.out _ _ N4.out (fun hHeld => ?_)
    clear hK K
    try simp only [putL, putN, List.set]
    refine wpAnyH_ready (rs := [12]) (by kernel_rfl) (by simp) ?_
    refine AllReadyH.cons rfl (fun K hK => ?_) AllReadyH.nil
    go_simp
    go_wp2_with (first | (go_at_call 27; refine (same_T T A1 c1 A2 c2 _ Q1.out.2 Q1.out.1 P2.out.2 P2.out.1 HT40).mono ?_; rintro e wc ⟨rfl, hb⟩; have N5 := Aside0.mk (below_step N4.out hb); clear hb))
    clear hHeld
    refine hK.out _ _ N5.out (fun hHeld => ?_)
    clear hK K
    try simp only [putL, putN, List.set]
    refine tk (i := 13) (v := _) 25 rfl (Or.inl ⟨by rfl, fun w' hW => by go_simp; try (first | with_reducible rfl | rfl)⟩) hHeld ?_
    try simp only [putL, putN, List.set]
    refine tk (i := 14) (v := _) 26 rfl (Or.inl ⟨by rfl, fun w' hW => by go_simp; try (first | with_reducible rfl | rfl)⟩) hHeld ?_
    try simp only [putL, putN, List.set]
    refine wpAnyH_ready (rs := [15]) (by kernel_rfl) (by simp) ?_
    refine AllReadyH.cons rfl (fun K hK => ?_) AllReadyH.nil
    go_simp
    go_wp2_with (first | (go_at_call 12; refine (alive_T _).mono ?_; rintro e wc ⟨rfl, hb⟩; have N6 := Aside0.mk (below_step N5.out hb); clear hb))
    clear hHeld
    refine hK.out _ _ N6.out (fun hHeld => ?_)
    clear hK K
    try simp only [putL, putN, List.set]
    refine tk (i := 16) (v := _) 28 rfl (Or.inl ⟨by rfl, fun w' hW => by go_simp; try (first | with_reducible rfl | rfl)⟩) hHeld ?_
    try simp only [putL, putN, List.set]
    refine tk (i := 17) (v := _) 6 rfl (Or.inl ⟨by rfl, fun w' hW => by go_simp; try (first | with_reducible rfl | rfl)⟩) hHeld ?_
    try simp only [putL, putN, List.set]
    refine wpAnyH_done (by kernel_rfl) ?_ _
    clear hHeld
    go_wp2_with fail
    go_ret
    exact ⟨rfl, HW.out.trans (N6.out.mono HW.out.size)⟩
  · have d1 : decide ((40 : Int) < (L0.length : Int)) = false := decide_eq_false (by omega)
    have d2 : decide (40 < L0.length) = false := decide_eq_false h40
    obtain ⟨L, hL⟩ : ∃ L, L = L0 := ⟨_, rfl⟩
    have HL0 : Aside0 (Kd.C kS W A L.length L ∧ L.length ≤ c ∧ L.length ≤ 40) := ⟨by rw [hL]; exact HR0.out, by rw [hL]; omega, by rw [hL]; omega⟩
    clear h40 hc
    go_enter Try.func9, Try.ntmps9
    go_upto_region 3 with fail
    rw [← hL]
    clear hL d1 d2
    obtain ⟨T, hT⟩ : ∃ T, cptN (0, 0) (srt L) (srt L).length = T := ⟨_, rfl⟩
    have HT := Aside0.mk hT
    have HT40 : T.length < 100 := by rw [← hT]; have := cptN_le (0, 0) (srt L) (srt L).length; rw [srt_len] at this; have := HL0.out.2.2; rw [srt_len]; omega
    clear hT
    have HW : Aside0 (Below W.heap.size W ((W.alloc (.cells (cS x) 29)).alloc (.cells (cS y) 29))) := ⟨((Below.refl _ _).alloc (Nat.le_refl _) _).alloc (by rw [World.size_alloc]; omega) _⟩
    have HB : Aside0 (((W.alloc (.cells (cS x) 29)).alloc (.cells (cS y) 29)).heap[W.heap.size]? = some (.cells (cS x) 29 (0, 0)) ∧ ((W.alloc (.cells (cS x) 29)).alloc (.cells (cS y) 29)).heap[W.heap.size + 1]? = some (.cells (cS y) 29 (0, 0))) := ⟨by
      refine obj_below ((Below.refl _ _).alloc (Nat.le_refl _) _) (World.alloc_heap_new _ _), by
      have := World.alloc_heap_new (W.alloc (.cells (cS x) 29)) (.cells (cS y) 29)
      rwa [World.size_alloc] at this⟩
    have HL : Aside0 (Kd.C kS ((W.alloc (.cells (cS x) 29)).alloc (.cells (cS y) 29)) A L.length L ∧ L.length ≤ c ∧ L.length ≤ 40) := ⟨Kd.C_below HL0.out.1 HW.out, HL0.out.2⟩
    generalize (W.alloc (.cells (cS x) 29)).alloc (.cells (cS y) 29) = wr at HW HB HL ⊢
    refine wp_region_held_drew (S := fun w' => Below wr.heap.size wr w') (by kernel_rfl) (pw_below_drewN (Below.refl _ _) 1) (fun hHeld => ?_)
    generalize wr.drew = wd at hHeld ⊢
    refine tk (i := 0) (v := _) 12 rfl (yields_blk (by rfl) 29 (.tmp 4) rfl (W.heap.size) (cS x) 29 rfl _ (fun w' hW => obj_below hW HB.out.1) Try.underlying29 rfl (by kernel_rfl)) hHeld ?_
    try simp only [putL, putN, List.set]
    refine tk (i := 1) (v := _) 13 rfl (yields_blk (by rfl) 29 (.tmp 5) rfl (W.heap.size + 1) (cS y) 29 rfl _ (fun w' hW => obj_below hW HB.out.2) Try.underlying29 rfl (by kernel_rfl)) hHeld ?_
    try simp only [putL, putN, List.set]
    refine tk (i := 3) (v := _) 15 rfl (yields_blk (by rfl) 29 (.tmp 4) rfl (W.heap.size) (cS x) 29 rfl _ (fun w' hW => obj_below hW HB.out.1) Try.underlying29 rfl (by kernel_rfl)) hHeld ?_
    try simp only [putL, putN, List.set]
    refine tk (i := 4) (v := _) 16 rfl (yields_blk (by rfl) 29 (.tmp 5) rfl (W.heap.size + 1) (cS y) 29 rfl _ (fun w' hW => obj_below hW HB.out.2) Try.underlying29 rfl (by kernel_rfl)) hHeld ?_
    try simp only [putL, putN, List.set]
    have N0 := Aside0.mk hHeld
    refine wpAnyH_ready (rs := [2]) (by kernel_rfl) (by simp) ?_
    refine AllReadyH.cons rfl (fun K hK => ?_) AllReadyH.nil
    go_simp
    go_wp2_with (first | (go_at_call 25; refine (ocmp_calls x y _).mono ?_; rintro e wc ⟨rfl, hb⟩; rw [HQ.out]; have N1 := Aside0.mk (below_step N0.out hb); clear hb))
    clear hHeld
    refine hK.out _ _ N1.out (fun hHeld => ?_)
    clear hK K
    try simp only [putL, putN, List.set]
    refine wpAnyH_ready (rs := [5]) (by kernel_rfl) (by simp) ?_
    refine AllReadyH.cons rfl (fun K hK => ?_) AllReadyH.nil
    go_simp
    go_wp2_with (first | (go_at_call 26; refine (rcmp_calls x y _).mono ?_; rintro e wc ⟨rfl, hb⟩; rw [HQ.out]; have N2 := Aside0.mk (below_step N1.out hb); clear hb))
    clear hHeld
    refine hK.out _ _ N2.out (fun hHeld => ?_)
    clear hK K
    try simp only [putL, putN, List.set]
    refine tk (i := 6) (v := .bool true) 18 rfl (Or.inl ⟨by rfl, fun w' hW => by go_simp; try (first | with_reducible rfl | rfl | (simp; done))⟩) hHeld ?_
    try simp only [putL, putN, List.set]
    refine tk (i := 7) (v := _) 19 rfl (Or.inl ⟨by rfl, fun w' hW => by go_simp; try (first | with_reducible rfl | rfl)⟩) hHeld ?_
    try simp only [putL, putN, List.set]
    refine tk (i := 8) (v := _) 20 rfl (Or.inl ⟨by rfl, fun w' hW => by go_simp; try (first | with_reducible rfl | rfl)⟩) hHeld ?_
    try simp only [putL, putN, List.set]
    refine tk (i := 10) (v := _) 22 rfl (Or.inl ⟨by rfl, fun w' hW => by go_simp; try (first | with_reducible rfl | rfl)⟩) hHeld ?_
    try simp only [putL, putN, List.set]
    refine wpAnyH_ready (rs := [9]) (by kernel_rfl) (by simp) ?_
    refine AllReadyH.cons rfl (fun K hK => ?_) AllReadyH.nil
    go_simp
    go_wp2_with (first | (go_at_call 28; refine (Sorted_calls A c L _ (Kd.C_below HL.out.1 N2.out) HL.out.2.1 HL.out.2.2).mono ?_; rintro e wc ⟨v, rfl, hR, hb⟩; rw [HT.out] at hR; obtain ⟨A1, c1, rfl, hc1, hC1⟩ := Kd.R_reads hR; have N3 := Aside0.mk (below_step N2.out hb); have P1 := Aside0.mk (And.intro hc1 hC1); clear hb hR hc1 hC1))
    clear hHeld
    refine hK.out _ _ N3.out (fun hHeld => ?_)
    clear hK K
    try simp only [putL, putN, List.set]
    refine wpAnyH_ready (rs := [11]) (by kernel_rfl) (by simp) ?_
    refine AllReadyH.cons rfl (fun K hK => ?_) AllReadyH.nil
    go_simp
    go_wp2_with (first | (go_at_call 29; refine (RSorted_calls A c L _ (Kd.C_below HL.out.1 N3.out) HL.out.2.1 HL.out.2.2).mono ?_; rintro e wc ⟨v, T', rfl, hR, hp, hm, _, hb⟩; have eT : T' = T := ((cpt_srt L T' hp hm).symm.trans HT.out); rw [eT] at hR; obtain ⟨A2, c2, rfl, hc2, hC2⟩ := Kd.R_reads hR; have N4 := Aside0.mk (below_step N3.out hb); have P2 := Aside0.mk (And.intro hc2 hC2); have Q1 := Aside0.mk (And.intro P1.out.1 (Kd.C_below P1.out.2 hb)); clear hb hR hp hm hc2 hC2 eT))
    clear hHeld
    refine hK.out _ _ N4.out (fun hHeld => ?_)
    clear hK K
    try simp only [putL, putN, List.set]
    refine wpAnyH_ready (rs := [12]) (by kernel_rfl) (by simp) ?_
    refine AllReadyH.cons rfl (fun K hK => ?_) AllReadyH.nil
    go_simp
    go_wp2_with (first | (go_at_call 27; refine (same_T T A1 c1 A2 c2 _ Q1.out.2 Q1.out.1 P2.out.2 P2.out.1 HT40).mono ?_; rintro e wc ⟨rfl, hb⟩; have N5 := Aside0.mk (below_step N4.out hb); clear hb))
    clear hHeld
    refine hK.out _ _ N5.out (fun hHeld => ?_)
    clear hK K
    try simp only [putL, putN, List.set]
    refine tk (i := 13) (v := _) 25 rfl (Or.inl ⟨by rfl, fun w' hW => by go_simp; try (first | with_reducible rfl | rfl)⟩) hHeld ?_
    try simp only [putL, putN, List.set]
    refine tk (i := 14) (v := _) 26 rfl (Or.inl ⟨by rfl, fun w' hW => by go_simp; try (first | with_reducible rfl | rfl)⟩) hHeld ?_
    try simp only [putL, putN, List.set]
    refine wpAnyH_ready (rs := [15]) (by kernel_rfl) (by simp) ?_
    refine AllReadyH.cons rfl (fun K hK => ?_) AllReadyH.nil
    go_simp
    go_wp2_with (first | (go_at_call 12; refine (alive_T _).mono ?_; rintro e wc ⟨rfl, hb⟩; have N6 := Aside0.mk (below_step N5.out hb); clear hb))
    clear hHeld
    refine hK.out _ _ N6.out (fun hHeld => ?_)
    clear hK K
    try simp only [putL, putN, List.set]
    refine tk (i := 16) (v := _) 28 rfl (Or.inl ⟨by rfl, fun w' hW => by go_simp; try (first | with_reducible rfl | rfl)⟩) hHeld ?_
    try simp only [putL, putN, List.set]
    refine tk (i := 17) (v := _) 6 rfl (Or.inl ⟨by rfl, fun w' hW => by go_simp; try (first | with_reducible rfl | rfl)⟩) hHeld ?_
    try simp only [putL, putN, List.set]
    refine wpAnyH_done (by kernel_rfl) ?_ _
    clear hHeld
    go_wp2_with fail
    go_ret
    exact ⟨rfl, HW.out.trans (N6.out.mono HW.out.size)⟩
theorem OrderStamps_hand (A0 : Option Addr) (c0 : Nat) (l0 : List S29) (a b c d : Int) (W : World) (hr0 : Kd.C k29 W A0 l0.length l0) (hc0 : l0.length ≤ c0) {p0 p1 p2 : Prop} (_ : p0) (_ : p1) (_ : p2) :
    Calls Try.prog 9 #[.slice A0 l0.length c0, .agg #[.int .i64 a, .int .i64 b], .agg #[.int .i64 c, .int .i64 d]] W fun e w' => e = .returned (.bool true) ∧ Below W.heap.size W w' := by
  have hk : ∀ (w : World) (x : S29) (cs : List Value), k29.K w x cs → kS.K w (x.f0, x.f1) cs := fun w x cs h => by
    rw [k29_open h]
    exact ⟨[.int .i64 x.f0], [.int .i64 x.f1], rfl, rfl, rfl⟩
  have e1 := C_map (d' := kS) (fun x : S29 => (x.f0, x.f1)) rfl hk hr0
  have hl : (l0.map (fun x : S29 => (x.f0, x.f1))).length = l0.length := List.length_map _
  rw [← hl] at e1 hc0
  have := Stamps_walk A0 c0 _ (a, b) (c, d) W e1 hc0
  rw [hl] at this
  exact this
end Go.Proofs.Ytgklphcnkplkoaa.QSt
