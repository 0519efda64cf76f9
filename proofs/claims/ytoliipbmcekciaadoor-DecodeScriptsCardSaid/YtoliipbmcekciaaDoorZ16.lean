/- Texts of this claim, joined: RPDc, LRDc, XFDe. -/
import Derived.Test.YtoliipbmcekciaaDoorZ14
import Derived.Test.YtoliipbmcekciaaDoorZ15
namespace Go.Proofs.YtoliipbmcekciaaDoor.QDc
open Go.RowKit Go.Shelf Go.Proofs.YtoliipbmcekciaaDoorW.PrintWords Go.Proofs.YtoliipbmcekciaaDoorW.PrintLast Go.Proofs.YtoliipbmcekciaaDoorW.PrintMore
set_option linter.unusedVariables false
set_option linter.unusedSimpArgs false
set_option maxRecDepth 100000 in
set_option maxHeartbeats 4000000 in
theorem RParse16 (k : Nat) (ad : Addr) (c : Nat) (l : List Int) (w : World) (hc : 16 ≤ c) (h16 : l.length = 16) (hr : Kd.C (Kd.int .u8) w (some ad) 16 l) (b0 b1 b2 b3 : Int) (hb0 : rd l 0 = b0) (hb1 : rd l 1 = b1) (hb2 : rd l 2 = b2) (hb3 : rd l 3 = b3) (t1 t2 : Int) (h1 : rampartref03_number.f k ((l.take 8).drop 4) = some t1) (h2 : rampartref03_number.f k (l.drop 8) = some t2) (X : Array Value) (e : Int) (hres : (b3 = 0 ∧ okReq b0 b1 b2 (t1 % 4294967296) t2 = true ∧ X = cReq b0 b1 b2 (t1 % 4294967296) t2 ∧ e = 0) ∨ (b3 = 0 ∧ okReq b0 b1 b2 (t1 % 4294967296) t2 = false ∧ X = cReq 0 0 0 0 0 ∧ e = 30) ∨ (b3 ≠ 0 ∧ X = cReq 0 0 0 0 0 ∧ e = 30)) :
    Calls Tryd.prog 34 #[.slice (some ad) 16 c] w fun e' w' => e' = .returned (.tuple #[.agg X, .int .i64 e]) ∧ Below w.heap.size w w' := by
  have HRES := Aside0.mk hres
  clear hres
  have hc4 : ¬ c = 4 := by omega
  have hc8 : ¬ c = 8 := by omega
  have hcc : 8 ≤ c := by omega
  have hcc4 : (8 : Int) ≤ (c : Int) := by omega
  have hcc6 : (16 : Int) ≤ (c : Int) := by omega
  have HG1 : Aside0 (∀ w', Below w.heap.size w w' → Calls Tryd.prog 62 #[.slice (some ⟨ad.block, ad.off + 4, none⟩) 4 (c - 4)] w' fun e w'' => e = .returned (.int .u64 t1) ∧ Below w'.heap.size w' w'') := ⟨fun w' hb => by
    have e : (l.take 8).drop 4 = (l.drop 4).take 4 := by rw [List.drop_take]
    have hl : ((l.take 8).drop 4).length = 4 := by rw [List.length_drop, List.length_take]; omega
    have := rampartref03_number.calls k (some (ad.add 4)) (c - 4) ((l.take 8).drop 4) t1 w' (by rw [hl, e]; exact C_sub (Kd.C_below hr hb) 4 4 (by omega)) (by omega) h1
    rw [hl] at this
    exact this.mono fun e w'' h => ⟨h.1, drawn_below h.2⟩⟩
  have HG2 : Aside0 (∀ w', Below w.heap.size w w' → Calls Tryd.prog 62 #[.slice (some ⟨ad.block, ad.off + 8, none⟩) 8 (c - 8)] w' fun e w'' => e = .returned (.int .u64 t2) ∧ Below w'.heap.size w' w'') := ⟨fun w' hb => by
    have hl : (l.drop 8).length = 8 := by rw [List.length_drop]; omega
    have e : (l.drop 8).take 8 = l.drop 8 := List.take_of_length_le (by omega)
    have := rampartref03_number.calls k (some (ad.add 8)) (c - 8) (l.drop 8) t2 w' (by rw [hl]; have := C_sub (Kd.C_below hr hb) 8 8 (by omega); rw [e] at this; exact this) (by omega) h2
    rw [hl] at this
    exact this.mono fun e w'' h => ⟨h.1, drawn_below h.2⟩⟩
  obtain ⟨a0, e0, x0⟩ := Kd.at_int hr 0 (by omega) (by omega)
  obtain ⟨a1, e1, x1⟩ := Kd.at_int hr 1 (by omega) (by omega)
  obtain ⟨a2, e2, x2⟩ := Kd.at_int hr 2 (by omega) (by omega)
  obtain ⟨a3, e3, x3⟩ := Kd.at_int hr 3 (by omega) (by omega)
  injection e0 with e0
  injection e1 with e1
  injection e2 with e2
  injection e3 with e3
  subst e0 e1 e2 e3
  rw [hb0] at x0
  rw [hb1] at x1
  rw [hb2] at x2
  rw [hb3] at x3
  have X0 : Aside0 (w.cell? ad = some (.int .u8 b0)) := ⟨by rw [show (0 : Int).toNat = 0 from rfl, Addr.add_zero'] at x0; exact x0⟩
  have X1 : Aside0 (w.cell? ⟨ad.block, ad.off + 1, none⟩ = some (.int .u8 b1)) := ⟨x1⟩
  have X2 : Aside0 (w.cell? ⟨ad.block, ad.off + 2, none⟩ = some (.int .u8 b2)) := ⟨x2⟩
  have X3 : Aside0 (w.cell? ⟨ad.block, ad.off + 3, none⟩ = some (.int .u8 b3)) := ⟨x3⟩
  clear hr x0 x1 x2 x3 h1 h2 hb0 hb1 hb2 hb3
  go_enter Tryd.func34, Tryd.ntmps34
  go_upto_region 3 with fail
  change Code.wp Tryd.prog _ _ _ (w.alloc (.cells (cReq 0 0 0 0 0) 55))
  have HO0 : Aside0 (OB w (w.alloc (.cells (cReq 0 0 0 0 0) 55)).drew) := ⟨(OB.start w).below (pw_below_drewN (Below.refl _ _) 1)⟩
  refine wp_region_held_drew (S := fun w' => Below w.heap.size w w') (by kernel_rfl) HO0.out.1 (fun hHeld => ?_)
  generalize (w.alloc (.cells (cReq 0 0 0 0 0) 55)).drew = w0 at HO0 hHeld ⊢
  refine tk (i := 0) (v := .slice (some ad) 16 c) 9 rfl (Or.inl ⟨by rfl, fun w _ => by go_simp; try (first | with_reducible rfl | rfl)⟩) hHeld ?_
  try simp only [putL, putN, List.set]
  refine tk (i := 1) (v := .pointer (some ad)) 10 rfl (Or.inl ⟨by rfl, fun w _ => by go_simp; try (first | with_reducible rfl | rfl)⟩) hHeld ?_
  try simp only [putL, putN, List.set]
  refine tk (i := 2) (v := .int .u8 b0) 11 rfl (Or.inl ⟨by rfl, fun w' hS => by have hq := pw_cell_below hS X0.out; go_simp⟩) hHeld ?_
  try simp only [putL, putN, List.set]
  refine tk (i := 3) (v := .slice (some ad) 16 c) 12 rfl (Or.inl ⟨by rfl, fun w _ => by go_simp; try (first | with_reducible rfl | rfl)⟩) hHeld ?_
  try simp only [putL, putN, List.set]
  refine tk (i := 4) (v := .pointer (some ⟨ad.block, ad.off + 1, none⟩)) 13 rfl (Or.inl ⟨by rfl, fun w _ => by go_simp; try (first | with_reducible rfl | rfl)⟩) hHeld ?_
  try simp only [putL, putN, List.set]
  refine tk (i := 5) (v := .int .u8 b1) 14 rfl (Or.inl ⟨by rfl, fun w' hS => by have hq := pw_cell_below hS X1.out; go_simp⟩) hHeld ?_
  try simp only [putL, putN, List.set]
  refine tk (i := 6) (v := .slice (some ad) 16 c) 15 rfl (Or.inl ⟨by rfl, fun w _ => by go_simp; try (first | with_reducible rfl | rfl)⟩) hHeld ?_
  try simp only [putL, putN, List.set]
  refine tk (i := 7) (v := .pointer (some ⟨ad.block, ad.off + 2, none⟩)) 16 rfl (Or.inl ⟨by rfl, fun w _ => by go_simp; try (first | with_reducible rfl | rfl)⟩) hHeld ?_
  try simp only [putL, putN, List.set]
  refine tk (i := 8) (v := .int .u8 b2) 17 rfl (Or.inl ⟨by rfl, fun w' hS => by have hq := pw_cell_below hS X2.out; go_simp⟩) hHeld ?_
  try simp only [putL, putN, List.set]
  refine tk (i := 9) (v := .slice (some ad) 16 c) 18 rfl (Or.inl ⟨by rfl, fun w _ => by go_simp; try (first | with_reducible rfl | rfl)⟩) hHeld ?_
  try simp only [putL, putN, List.set]
  refine tk (i := 10) (v := .slice (some ⟨ad.block, ad.off + 4, none⟩) 4 (c - 4)) 19 rfl (Or.inl ⟨by rfl, fun w _ => by go_simp; try (first | with_reducible rfl | rfl)⟩) hHeld ?_
  try simp only [putL, putN, List.set]
  refine tk (i := 13) (v := .slice (some ad) 16 c) 22 rfl (Or.inl ⟨by rfl, fun w _ => by go_simp; try (first | with_reducible rfl | rfl)⟩) hHeld ?_
  try simp only [putL, putN, List.set]
  refine tk (i := 14) (v := .slice (some ⟨ad.block, ad.off + 8, none⟩) 8 (c - 8)) 23 rfl (Or.inl ⟨by rfl, fun w _ => by go_simp; try (first | with_reducible rfl | rfl)⟩) hHeld ?_
  try simp only [putL, putN, List.set]
  refine wpAnyH_ready (rs := [11, 17]) (by kernel_rfl) (by simp) ?_
  refine AllReadyH.cons rfl (fun K hK => ?_) (AllReadyH.cons rfl (fun K hK => ?_) AllReadyH.nil)
  · skip
    go_simp
    go_wp2_with (first | (go_at_call 62; refine (HG1.out _ hHeld).mono ?_; rintro e1 w1 ⟨rfl, hb⟩; have HO1 := Aside0.mk (HO0.out.below hb); clear hb))
    clear hHeld
    refine hK.out _ _ (below_of_ob HO1.out) (fun hHeld => ?_)
    clear hK K
    try simp only [putL, putN, List.set]
    refine tk (i := 12) (v := .int .u32 (t1 % 4294967296)) 21 rfl (Or.inl ⟨by rfl, fun w _ => by go_simp; try (first | with_reducible rfl | rfl)⟩) hHeld ?_
    try simp only [putL, putN, List.set]
    refine wpAnyH_ready (rs := [15, 17]) (by kernel_rfl) (by simp) ?_
    refine AllReadyH.cons rfl (fun K hK => ?_) (AllReadyH.cons rfl (fun K hK => ?_) AllReadyH.nil)
    · skip
      go_simp
      go_wp2_with (first | (go_at_call 62; refine (HG2.out _ hHeld).mono ?_; rintro e2 w2 ⟨rfl, hb⟩; have HO2 := Aside0.mk (HO1.out.below hb); clear hb))
      clear hHeld
      refine hK.out _ _ (below_of_ob HO2.out) (fun hHeld => ?_)
      clear hK K
      try simp only [putL, putN, List.set]
      refine tk (i := 16) (v := .agg (cReq b0 b1 b2 (t1 % 4294967296) t2)) 25 rfl (Or.inl ⟨by rfl, fun w _ => by go_simp; try (first | with_reducible rfl | rfl)⟩) hHeld ?_
      try simp only [putL, putN, List.set]
      refine wpAnyH_ready (rs := [17]) (by kernel_rfl) (by simp) ?_
      refine AllReadyH.cons rfl (fun K hK => ?_) AllReadyH.nil
      · skip
        go_simp
        obtain ⟨g3, hg3⟩ : ∃ g, w2.heap.size = g := ⟨_, rfl⟩
        have HA3 : Aside0 (w.heap.size < w2.heap.size ∧ (w2.alloc (.cells (cReq 0 0 0 0 0) 55)).heap[w2.heap.size]? = some (.cells (cReq 0 0 0 0 0) 55 (0, 0))) := ⟨(Array.getElem?_eq_some_iff.1 HO2.out.2).1, heap_alloc_new _ _⟩
        have HO3 : Aside0 (OB w (w2.alloc (.cells (cReq 0 0 0 0 0) 55))) := ⟨HO2.out.below (below_alloc (Below.refl _ _) _)⟩
        rw [hg3] at HA3 ⊢
        clear hHeld hg3
        generalize w2.alloc (.cells (cReq 0 0 0 0 0) 55) = wA3 at HA3 HO3 ⊢
        refine hK.out _ _ (below_of_ob HO3.out) (fun hHeld => ?_)
        clear hK K
        try simp only [putL, putN, List.set]
        refine wpAnyH_ready (rs := [18]) (by kernel_rfl) (by simp) ?_
        refine AllReadyH.cons rfl (fun K hK => ?_) AllReadyH.nil
        rw [if_pos (by rfl)]
        refine store_at rfl 55 (.tmp 4) (.tmp 25) rfl g3 0 (cReq b0 b1 b2 (t1 % 4294967296) t2) rfl rfl (there_of_block HA3.out.2 0 5 (by simp)) (by kernel_rfl) (by simp [Value.oneCell']) ?_
        have hbl : (wA3.setCells g3 0 (cReq b0 b1 b2 (t1 % 4294967296) t2).toList).heap[g3]? = some (.cells (cReq b0 b1 b2 (t1 % 4294967296) t2) 55 (0, 0)) := by rw [blk_setCells _ 0 _ _ HA3.out.2, setReq _ _ _ _ _ _ (by simp)]
        have HZ := Aside0.mk (And.intro (HO3.out.other HA3.out.1 (cReq b0 b1 b2 (t1 % 4294967296) t2).toList) hbl)
        clear hbl hHeld
        generalize wA3.setCells g3 0 (cReq b0 b1 b2 (t1 % 4294967296) t2).toList = wz at HZ ⊢
        generalize g3 = gz at HZ ⊢
        refine hK.out _ _ (below_of_ob HZ.out.1) (fun hHeld => ?_)
        clear hK K hHeld
        try simp only [putL, putN, List.set]
        refine wpAnyH_done (by kernel_rfl) ?_ _
        have x3 := pw_cell_below HZ.out.1.1 X3.out
        obtain ⟨q0, q1, q2, q3, q4⟩ := req_cells HZ.out.2
        rcases HRES.out with ⟨hz, hok, hX, he⟩ | ⟨hz, hok, hX, he⟩ | ⟨hz, hX, he⟩
        · have HX := Aside0.mk (And.intro hX he)
          have hd : (b3 != 0) = false := bne_eq_false_iff_eq.mpr hz
          have hd2 : (b3 == 0) = true := beq_iff_eq.mpr hz
          have HOK := Aside0.mk hok
          clear hz hok hX he
          go_wp2_with (first | ((with_reducible refine gate_ (.load 55 (.tmp 4)) rfl ?_); refine load_blk rfl 55 (.tmp 4) rfl gz _ 55 rfl _ HC.out.2 Tryd.underlying55 rfl (by kernel_rfl) ?_) | ((with_reducible refine gate_ (.load 55 (.tmp 4)) rfl ?_); refine load_blk rfl 55 (.tmp 4) rfl gz _ 55 rfl _ HZ.out.2 Tryd.underlying55 rfl (by kernel_rfl) ?_) | (go_at_call 63; refine (Is_calls b0 b1 b2 (t1 % 4294967296) t2 _).mono ?_; rintro e9 w9 ⟨rfl, hb⟩; rw [HOK.out]; have HC := Aside0.mk (And.intro (HZ.out.1.below hb) (obj_below hb HZ.out.2)); clear hb) | ((with_reducible refine gate_store (p := 2) (t := 55) rfl ?_); refine store_blk rfl 55 (.tmp 2) (.tmp 36) rfl w.heap.size 0 (cReq b0 b1 b2 (t1 % 4294967296) t2) _ 55 rfl rfl HC.out.1.2 (by simp) (by kernel_rfl) (by simp [Value.oneCell']) ?_; intro wy ey hwy; have HY := Aside0.mk (HC.out.1.stored b0 b1 b2 (t1 % 4294967296) t2); rw [← show wy = _ from ey] at HY; clear ey hwy))
          obtain ⟨hb, c1⟩ := HY.out
          clear x3 q0 q1 q2 q3 q4
          obtain ⟨z0, z1, z2, z3, z4⟩ := req_cells c1
          (try simp only [Exit.inBlock, Exit.then])
          refine bodyPost_ret (by simp [results, Tryd.results34, go_sem, z0, z1, z2, z3, z4]; try rfl) rfl ?_
          exact ⟨by rw [HX.out.1, HX.out.2], hb⟩
        · have HX := Aside0.mk (And.intro hX he)
          have hd : (b3 != 0) = false := bne_eq_false_iff_eq.mpr hz
          have hd2 : (b3 == 0) = true := beq_iff_eq.mpr hz
          have HOK := Aside0.mk hok
          clear hz hok hX he
          go_wp2_with (first | ((with_reducible refine gate_ (.load 55 (.tmp 4)) rfl ?_); refine load_blk rfl 55 (.tmp 4) rfl gz _ 55 rfl _ HZ.out.2 Tryd.underlying55 rfl (by kernel_rfl) ?_) | (go_at_call 63; refine (Is_calls b0 b1 b2 (t1 % 4294967296) t2 _).mono ?_; rintro e9 w9 ⟨rfl, hb⟩; rw [HOK.out]; have HC := Aside0.mk (And.intro (HZ.out.1.below hb) (obj_below hb HZ.out.2)); clear hb) | ((with_reducible refine gate_store (p := 2) (t := 55) rfl ?_); refine store_blk rfl 55 (.tmp 2) (.tmp 35) rfl w.heap.size 0 (cReq 0 0 0 0 0) _ 55 rfl rfl HC.out.1.2 (by simp) (by kernel_rfl) (by simp [Value.oneCell']) ?_; intro wy ey hwy; have HY := Aside0.mk (HC.out.1.stored 0 0 0 0 0); rw [← show wy = _ from ey] at HY; clear ey hwy))
          obtain ⟨hb, c1⟩ := HY.out
          clear x3 q0 q1 q2 q3 q4
          obtain ⟨z0, z1, z2, z3, z4⟩ := req_cells c1
          (try simp only [Exit.inBlock, Exit.then])
          refine bodyPost_ret (by simp [results, Tryd.results34, go_sem, z0, z1, z2, z3, z4]; try rfl) rfl ?_
          exact ⟨by rw [HX.out.1, HX.out.2], hb⟩
        · have HX := Aside0.mk (And.intro hX he)
          have hd : (b3 != 0) = true := bne_iff_ne.mpr hz
          have hd2 : (b3 == 0) = false := beq_false_of_ne hz
          clear hz hX he
          go_wp2_with (((with_reducible refine gate_store (p := 2) (t := 55) rfl ?_); refine store_blk rfl 55 (.tmp 2) (.tmp 35) rfl w.heap.size 0 (cReq 0 0 0 0 0) _ 55 rfl rfl HZ.out.1.2 (by simp) (by kernel_rfl) (by simp [Value.oneCell']) ?_; intro wy ey hwy; have HY := Aside0.mk (HZ.out.1.stored 0 0 0 0 0); rw [← show wy = _ from ey] at HY; clear ey hwy))
          obtain ⟨hb, c1⟩ := HY.out
          clear x3 q0 q1 q2 q3 q4
          obtain ⟨z0, z1, z2, z3, z4⟩ := req_cells c1
          (try simp only [Exit.inBlock, Exit.then])
          refine bodyPost_ret (by simp [results, Tryd.results34, go_sem, z0, z1, z2, z3, z4]; try rfl) rfl ?_
          exact ⟨by rw [HX.out.1, HX.out.2], hb⟩
    · skip
      go_simp
      obtain ⟨g4, hg4⟩ : ∃ g, w1.heap.size = g := ⟨_, rfl⟩
      have HA4 : Aside0 (w.heap.size < w1.heap.size ∧ (w1.alloc (.cells (cReq 0 0 0 0 0) 55)).heap[w1.heap.size]? = some (.cells (cReq 0 0 0 0 0) 55 (0, 0))) := ⟨(Array.getElem?_eq_some_iff.1 HO1.out.2).1, heap_alloc_new _ _⟩
      have HO4 : Aside0 (OB w (w1.alloc (.cells (cReq 0 0 0 0 0) 55))) := ⟨HO1.out.below (below_alloc (Below.refl _ _) _)⟩
      rw [hg4] at HA4 ⊢
      clear hHeld hg4
      generalize w1.alloc (.cells (cReq 0 0 0 0 0) 55) = wA4 at HA4 HO4 ⊢
      refine hK.out _ _ (below_of_ob HO4.out) (fun hHeld => ?_)
      clear hK K
      try simp only [putL, putN, List.set]
      refine wpAnyH_ready (rs := [15]) (by kernel_rfl) (by simp) ?_
      refine AllReadyH.cons rfl (fun K hK => ?_) AllReadyH.nil
      · skip
        go_simp
        go_wp2_with (first | (go_at_call 62; refine (HG2.out _ hHeld).mono ?_; rintro e5 w5 ⟨rfl, hb⟩; have HO5 := Aside0.mk (HO4.out.below hb); have HB5 : Aside0 (w.heap.size < g4 ∧ w5.heap[g4]? = some (.cells (cReq 0 0 0 0 0) 55 (0, 0))) := ⟨HA4.out.1, obj_below hb HA4.out.2⟩; clear hb))
        clear hHeld
        refine hK.out _ _ (below_of_ob HO5.out) (fun hHeld => ?_)
        clear hK K
        try simp only [putL, putN, List.set]
        refine tk (i := 16) (v := .agg (cReq b0 b1 b2 (t1 % 4294967296) t2)) 25 rfl (Or.inl ⟨by rfl, fun w _ => by go_simp; try (first | with_reducible rfl | rfl)⟩) hHeld ?_
        try simp only [putL, putN, List.set]
        refine wpAnyH_ready (rs := [18]) (by kernel_rfl) (by simp) ?_
        refine AllReadyH.cons rfl (fun K hK => ?_) AllReadyH.nil
        rw [if_pos (by rfl)]
        refine store_at rfl 55 (.tmp 4) (.tmp 25) rfl g4 0 (cReq b0 b1 b2 (t1 % 4294967296) t2) rfl rfl (there_of_block HB5.out.2 0 5 (by simp)) (by kernel_rfl) (by simp [Value.oneCell']) ?_
        have hbl : (w5.setCells g4 0 (cReq b0 b1 b2 (t1 % 4294967296) t2).toList).heap[g4]? = some (.cells (cReq b0 b1 b2 (t1 % 4294967296) t2) 55 (0, 0)) := by rw [blk_setCells _ 0 _ _ HB5.out.2, setReq _ _ _ _ _ _ (by simp)]
        have HZ := Aside0.mk (And.intro (HO5.out.other HB5.out.1 (cReq b0 b1 b2 (t1 % 4294967296) t2).toList) hbl)
        clear hbl hHeld
        generalize w5.setCells g4 0 (cReq b0 b1 b2 (t1 % 4294967296) t2).toList = wz at HZ ⊢
        generalize g4 = gz at HZ ⊢
        refine hK.out _ _ (below_of_ob HZ.out.1) (fun hHeld => ?_)
        clear hK K hHeld
        try simp only [putL, putN, List.set]
        refine wpAnyH_done (by kernel_rfl) ?_ _
        have x3 := pw_cell_below HZ.out.1.1 X3.out
        obtain ⟨q0, q1, q2, q3, q4⟩ := req_cells HZ.out.2
        rcases HRES.out with ⟨hz, hok, hX, he⟩ | ⟨hz, hok, hX, he⟩ | ⟨hz, hX, he⟩
        · have HX := Aside0.mk (And.intro hX he)
          have hd : (b3 != 0) = false := bne_eq_false_iff_eq.mpr hz
          have hd2 : (b3 == 0) = true := beq_iff_eq.mpr hz
          have HOK := Aside0.mk hok
          clear hz hok hX he
          go_wp2_with (first | ((with_reducible refine gate_ (.load 55 (.tmp 4)) rfl ?_); refine load_blk rfl 55 (.tmp 4) rfl gz _ 55 rfl _ HC.out.2 Tryd.underlying55 rfl (by kernel_rfl) ?_) | ((with_reducible refine gate_ (.load 55 (.tmp 4)) rfl ?_); refine load_blk rfl 55 (.tmp 4) rfl gz _ 55 rfl _ HZ.out.2 Tryd.underlying55 rfl (by kernel_rfl) ?_) | (go_at_call 63; refine (Is_calls b0 b1 b2 (t1 % 4294967296) t2 _).mono ?_; rintro e9 w9 ⟨rfl, hb⟩; rw [HOK.out]; have HC := Aside0.mk (And.intro (HZ.out.1.below hb) (obj_below hb HZ.out.2)); clear hb) | ((with_reducible refine gate_store (p := 2) (t := 55) rfl ?_); refine store_blk rfl 55 (.tmp 2) (.tmp 36) rfl w.heap.size 0 (cReq b0 b1 b2 (t1 % 4294967296) t2) _ 55 rfl rfl HC.out.1.2 (by simp) (by kernel_rfl) (by simp [Value.oneCell']) ?_; intro wy ey hwy; have HY := Aside0.mk (HC.out.1.stored b0 b1 b2 (t1 % 4294967296) t2); rw [← show wy = _ from ey] at HY; clear ey hwy))
          obtain ⟨hb, c1⟩ := HY.out
          clear x3 q0 q1 q2 q3 q4
          obtain ⟨z0, z1, z2, z3, z4⟩ := req_cells c1
          (try simp only [Exit.inBlock, Exit.then])
          refine bodyPost_ret (by simp [results, Tryd.results34, go_sem, z0, z1, z2, z3, z4]; try rfl) rfl ?_
          exact ⟨by rw [HX.out.1, HX.out.2], hb⟩
        · have HX := Aside0.mk (And.intro hX he)
          have hd : (b3 != 0) = false := bne_eq_false_iff_eq.mpr hz
          have hd2 : (b3 == 0) = true := beq_iff_eq.mpr hz
          have HOK := Aside0.mk hok
          clear hz hok hX he
          go_wp2_with (first | ((with_reducible refine gate_ (.load 55 (.tmp 4)) rfl ?_); refine load_blk rfl 55 (.tmp 4) rfl gz _ 55 rfl _ HZ.out.2 Tryd.underlying55 rfl (by kernel_rfl) ?_) | (go_at_call 63; refine (Is_calls b0 b1 b2 (t1 % 4294967296) t2 _).mono ?_; rintro e9 w9 ⟨rfl, hb⟩; rw [HOK.out]; have HC := Aside0.mk (And.intro (HZ.out.1.below hb) (obj_below hb HZ.out.2)); clear hb) | ((with_reducible refine gate_store (p := 2) (t := 55) rfl ?_); refine store_blk rfl 55 (.tmp 2) (.tmp 35) rfl w.heap.size 0 (cReq 0 0 0 0 0) _ 55 rfl rfl HC.out.1.2 (by simp) (by kernel_rfl) (by simp [Value.oneCell']) ?_; intro wy ey hwy; have HY := Aside0.mk (HC.out.1.stored 0 0 0 0 0); rw [← show wy = _ from ey] at HY; clear ey hwy))
          obtain ⟨hb, c1⟩ := HY.out
          clear x3 q0 q1 q2 q3 q4
          obtain ⟨z0, z1, z2, z3, z4⟩ := req_cells c1
          (try simp only [Exit.inBlock, Exit.then])
          refine bodyPost_ret (by simp [results, Tryd.results34, go_sem, z0, z1, z2, z3, z4]; try rfl) rfl ?_
          exact ⟨by rw [HX.out.1, HX.out.2], hb⟩
        · have HX := Aside0.mk (And.intro hX he)
          have hd : (b3 != 0) = true := bne_iff_ne.mpr hz
          have hd2 : (b3 == 0) = false := beq_false_of_ne hz
          clear hz hX he
          go_wp2_with (((with_reducible refine gate_store (p := 2) (t := 55) rfl ?_); refine store_blk rfl 55 (.tmp 2) (.tmp 35) rfl w.heap.size 0 (cReq 0 0 0 0 0) _ 55 rfl rfl HZ.out.1.2 (by simp) (by kernel_rfl) (by simp [Value.oneCell']) ?_; intro wy ey hwy; have HY := Aside0.mk (HZ.out.1.stored 0 0 0 0 0); rw [← show wy = _ from ey] at HY; clear ey hwy))
          obtain ⟨hb, c1⟩ := HY.out
          clear x3 q0 q1 q2 q3 q4
          obtain ⟨z0, z1, z2, z3, z4⟩ := req_cells c1
          (try simp only [Exit.inBlock, Exit.then])
          refine bodyPost_ret (by simp [results, Tryd.results34, go_sem, z0, z1, z2, z3, z4]; try rfl) rfl ?_
          exact ⟨by rw [HX.out.1, HX.out.2], hb⟩
  · skip
    go_simp
    obtain ⟨g6, hg6⟩ : ∃ g, w0.heap.size = g := ⟨_, rfl⟩
    have HA6 : Aside0 (w.heap.size < w0.heap.size ∧ (w0.alloc (.cells (cReq 0 0 0 0 0) 55)).heap[w0.heap.size]? = some (.cells (cReq 0 0 0 0 0) 55 (0, 0))) := ⟨(Array.getElem?_eq_some_iff.1 HO0.out.2).1, heap_alloc_new _ _⟩
    have HO6 : Aside0 (OB w (w0.alloc (.cells (cReq 0 0 0 0 0) 55))) := ⟨HO0.out.below (below_alloc (Below.refl _ _) _)⟩
    rw [hg6] at HA6 ⊢
    clear hHeld hg6
    generalize w0.alloc (.cells (cReq 0 0 0 0 0) 55) = wA6 at HA6 HO6 ⊢
    refine hK.out _ _ (below_of_ob HO6.out) (fun hHeld => ?_)
    clear hK K
    try simp only [putL, putN, List.set]
    refine wpAnyH_ready (rs := [11]) (by kernel_rfl) (by simp) ?_
    refine AllReadyH.cons rfl (fun K hK => ?_) AllReadyH.nil
    · skip
      go_simp
      go_wp2_with (first | (go_at_call 62; refine (HG1.out _ hHeld).mono ?_; rintro e7 w7 ⟨rfl, hb⟩; have HO7 := Aside0.mk (HO6.out.below hb); have HB7 : Aside0 (w.heap.size < g6 ∧ w7.heap[g6]? = some (.cells (cReq 0 0 0 0 0) 55 (0, 0))) := ⟨HA6.out.1, obj_below hb HA6.out.2⟩; clear hb))
      clear hHeld
      refine hK.out _ _ (below_of_ob HO7.out) (fun hHeld => ?_)
      clear hK K
      try simp only [putL, putN, List.set]
      refine tk (i := 12) (v := .int .u32 (t1 % 4294967296)) 21 rfl (Or.inl ⟨by rfl, fun w _ => by go_simp; try (first | with_reducible rfl | rfl)⟩) hHeld ?_
      try simp only [putL, putN, List.set]
      refine wpAnyH_ready (rs := [15]) (by kernel_rfl) (by simp) ?_
      refine AllReadyH.cons rfl (fun K hK => ?_) AllReadyH.nil
      · skip
        go_simp
        go_wp2_with (first | (go_at_call 62; refine (HG2.out _ hHeld).mono ?_; rintro e8 w8 ⟨rfl, hb⟩; have HO8 := Aside0.mk (HO7.out.below hb); have HB8 : Aside0 (w.heap.size < g6 ∧ w8.heap[g6]? = some (.cells (cReq 0 0 0 0 0) 55 (0, 0))) := ⟨HB7.out.1, obj_below hb HB7.out.2⟩; clear hb))
        clear hHeld
        refine hK.out _ _ (below_of_ob HO8.out) (fun hHeld => ?_)
        clear hK K
        try simp only [putL, putN, List.set]
        refine tk (i := 16) (v := .agg (cReq b0 b1 b2 (t1 % 4294967296) t2)) 25 rfl (Or.inl ⟨by rfl, fun w _ => by go_simp; try (first | with_reducible rfl | rfl)⟩) hHeld ?_
        try simp only [putL, putN, List.set]
        refine wpAnyH_ready (rs := [18]) (by kernel_rfl) (by simp) ?_
        refine AllReadyH.cons rfl (fun K hK => ?_) AllReadyH.nil
        rw [if_pos (by rfl)]
        refine store_at rfl 55 (.tmp 4) (.tmp 25) rfl g6 0 (cReq b0 b1 b2 (t1 % 4294967296) t2) rfl rfl (there_of_block HB8.out.2 0 5 (by simp)) (by kernel_rfl) (by simp [Value.oneCell']) ?_
        have hbl : (w8.setCells g6 0 (cReq b0 b1 b2 (t1 % 4294967296) t2).toList).heap[g6]? = some (.cells (cReq b0 b1 b2 (t1 % 4294967296) t2) 55 (0, 0)) := by rw [blk_setCells _ 0 _ _ HB8.out.2, setReq _ _ _ _ _ _ (by simp)]
        have HZ := Aside0.mk (And.intro (HO8.out.other HB8.out.1 (cReq b0 b1 b2 (t1 % 4294967296) t2).toList) hbl)
        clear hbl hHeld
        generalize w8.setCells g6 0 (cReq b0 b1 b2 (t1 % 4294967296) t2).toList = wz at HZ ⊢
        generalize g6 = gz at HZ ⊢
        refine hK.out _ _ (below_of_ob HZ.out.1) (fun hHeld => ?_)
        clear hK K hHeld
        try simp only [putL, putN, List.set]
        refine wpAnyH_done (by kernel_rfl) ?_ _
        have x3 := pw_cell_below HZ.out.1.1 X3.out
        obtain ⟨q0, q1, q2, q3, q4⟩ := req_cells HZ.out.2
        rcases HRES.out with ⟨hz, hok, hX, he⟩ | ⟨hz, hok, hX, he⟩ | ⟨hz, hX, he⟩
        · have HX := Aside0.mk (And.intro hX he)
          have hd : (b3 != 0) = false := bne_eq_false_iff_eq.mpr hz
          have hd2 : (b3 == 0) = true := beq_iff_eq.mpr hz
          have HOK := Aside0.mk hok
          clear hz hok hX he
          go_wp2_with (first | ((with_reducible refine gate_ (.load 55 (.tmp 4)) rfl ?_); refine load_blk rfl 55 (.tmp 4) rfl gz _ 55 rfl _ HC.out.2 Tryd.underlying55 rfl (by kernel_rfl) ?_) | ((with_reducible refine gate_ (.load 55 (.tmp 4)) rfl ?_); refine load_blk rfl 55 (.tmp 4) rfl gz _ 55 rfl _ HZ.out.2 Tryd.underlying55 rfl (by kernel_rfl) ?_) | (go_at_call 63; refine (Is_calls b0 b1 b2 (t1 % 4294967296) t2 _).mono ?_; rintro e9 w9 ⟨rfl, hb⟩; rw [HOK.out]; have HC := Aside0.mk (And.intro (HZ.out.1.below hb) (obj_below hb HZ.out.2)); clear hb) | ((with_reducible refine gate_store (p := 2) (t := 55) rfl ?_); refine store_blk rfl 55 (.tmp 2) (.tmp 36) rfl w.heap.size 0 (cReq b0 b1 b2 (t1 % 4294967296) t2) _ 55 rfl rfl HC.out.1.2 (by simp) (by kernel_rfl) (by simp [Value.oneCell']) ?_; intro wy ey hwy; have HY := Aside0.mk (HC.out.1.stored b0 b1 b2 (t1 % 4294967296) t2); rw [← show wy = _ from ey] at HY; clear ey hwy))
          obtain ⟨hb, c1⟩ := HY.out
          clear x3 q0 q1 q2 q3 q4
          obtain ⟨z0, z1, z2, z3, z4⟩ := req_cells c1
          (try simp only [Exit.inBlock, Exit.then])
          refine bodyPost_ret (by simp [results, Tryd.results34, go_sem, z0, z1, z2, z3, z4]; try rfl) rfl ?_
          exact ⟨by rw [HX.out.1, HX.out.2], hb⟩
        · have HX := Aside0.mk (And.intro hX he)
          have hd : (b3 != 0) = false := bne_eq_false_iff_eq.mpr hz
          have hd2 : (b3 == 0) = true := beq_iff_eq.mpr hz
          have HOK := Aside0.mk hok
          clear hz hok hX he
          go_wp2_with (first | ((with_reducible refine gate_ (.load 55 (.tmp 4)) rfl ?_); refine load_blk rfl 55 (.tmp 4) rfl gz _ 55 rfl _ HZ.out.2 Tryd.underlying55 rfl (by kernel_rfl) ?_) | (go_at_call 63; refine (Is_calls b0 b1 b2 (t1 % 4294967296) t2 _).mono ?_; rintro e9 w9 ⟨rfl, hb⟩; rw [HOK.out]; have HC := Aside0.mk (And.intro (HZ.out.1.below hb) (obj_below hb HZ.out.2)); clear hb) | ((with_reducible refine gate_store (p := 2) (t := 55) rfl ?_); refine store_blk rfl 55 (.tmp 2) (.tmp 35) rfl w.heap.size 0 (cReq 0 0 0 0 0) _ 55 rfl rfl HC.out.1.2 (by simp) (by kernel_rfl) (by simp [Value.oneCell']) ?_; intro wy ey hwy; have HY := Aside0.mk (HC.out.1.stored 0 0 0 0 0); rw [← show wy = _ from ey] at HY; clear ey hwy))
          obtain ⟨hb, c1⟩ := HY.out
          clear x3 q0 q1 q2 q3 q4
          obtain ⟨z0, z1, z2, z3, z4⟩ := req_cells c1
          (try simp only [Exit.inBlock, Exit.then])
          refine bodyPost_ret (by simp [results, Tryd.results34, go_sem, z0, z1, z2, z3, z4]; try rfl) rfl ?_
          exact ⟨by rw [HX.out.1, HX.out.2], hb⟩
        · have HX := Aside0.mk (And.intro hX he)
          have hd : (b3 != 0) = true := bne_iff_ne.mpr hz
          have hd2 : (b3 == 0) = false := beq_false_of_ne hz
          clear hz hX he
          go_wp2_with (((with_reducible refine gate_store (p := 2) (t := 55) rfl ?_); refine store_blk rfl 55 (.tmp 2) (.tmp 35) rfl w.heap.size 0 (cReq 0 0 0 0 0) _ 55 rfl rfl HZ.out.1.2 (by simp) (by kernel_rfl) (by simp [Value.oneCell']) ?_; intro wy ey hwy; have HY := Aside0.mk (HZ.out.1.stored 0 0 0 0 0); rw [← show wy = _ from ey] at HY; clear ey hwy))
          obtain ⟨hb, c1⟩ := HY.out
          clear x3 q0 q1 q2 q3 q4
          obtain ⟨z0, z1, z2, z3, z4⟩ := req_cells c1
          (try simp only [Exit.inBlock, Exit.then])
          refine bodyPost_ret (by simp [results, Tryd.results34, go_sem, z0, z1, z2, z3, z4]; try rfl) rfl ?_
          exact ⟨by rw [HX.out.1, HX.out.2], hb⟩

def errOf2 (l : List Int) : Int := if (parse1 l).f1 = true then 0 else 30
theorem RParse_by (A : Option Addr) (c : Nat) (l : List Int) (w : World) (hr : Kd.C (Kd.int .u8) w A l.length l) (hc : l.length ≤ c) (hb : ∀ x ∈ l, Byte x) : Calls Tryd.prog 34 #[.slice A l.length c] w fun e w' => e = .returned (.tuple #[.agg (cReq (parse1 l).f0.f0 (parse1 l).f0.f1 (parse1 l).f0.f2 (parse1 l).f0.f3 (parse1 l).f0.f4), .int .i64 (errOf2 l)]) ∧ Below w.heap.size w w' := by
  by_cases h16 : l.length = 16
  · obtain ⟨ad, rfl, _⟩ := Kd.at_int hr 0 (by omega) (by omega)
    obtain ⟨e1, e2⟩ := num_get l h16 hb
    rw [h16] at hr hc
    rw [h16]
    refine RParse16 9 ad c l w hc h16 hr _ _ _ _ rfl rfl rfl rfl _ _ e1 e2 _ _ ?_
    by_cases h3 : rd l 3 = 0
    · cases hk : okReq (rd l 0) (rd l 1) (rd l 2) (get4 l % 4294967296) (get8 l) with
      | true =>
        have e : parse1 l = ⟨⟨rd l 0, rd l 1, rd l 2, get4 l % 4294967296, get8 l⟩, true⟩ := by unfold parse1; rw [if_pos ⟨h16, h3, hk⟩]
        exact .inl ⟨h3, rfl, by rw [e], by unfold errOf2; rw [e]; rfl⟩
      | false =>
        have e : parse1 l = ⟨⟨0, 0, 0, 0, 0⟩, false⟩ := by unfold parse1; rw [if_neg (fun h => by rw [hk] at h; exact absurd h.2.2 (by decide))]
        exact .inr (.inl ⟨h3, rfl, by rw [e], by unfold errOf2; rw [e]; rfl⟩)
    · have e : parse1 l = ⟨⟨0, 0, 0, 0, 0⟩, false⟩ := by unfold parse1; rw [if_neg (fun h => h3 h.2.1)]
      exact .inr (.inr ⟨h3, by rw [e], by unfold errOf2; rw [e]; rfl⟩)
  · have e : parse1 l = ⟨⟨0, 0, 0, 0, 0⟩, false⟩ := by unfold parse1; rw [if_neg (fun h' => h16 h'.1)]
    unfold errOf2
    rw [e]
    exact RParse_long A c l.length w h16
structure RT (cv tv : Array Value) (w w2 : World) : Prop where
  b : Below w.heap.size w w2
  e0 : w2.heap[w.heap.size]? = some (.cells cv 28 (0, 0))
  e1 : w2.heap[w.heap.size + 1]? = some (.cells tv 31 (0, 0))
theorem RT.start (cv tv : Array Value) (w : World) : RT cv tv w ((w.alloc (.cells cv 28)).alloc (.cells tv 31)) := ⟨((Below.refl _ w).alloc (Nat.le_refl _) _).alloc (by simp) _, (Below.heap_alloc _ _ _ (by simp)).trans (World.alloc_heap_new w _), by have := World.alloc_heap_new (w.alloc (.cells cv 28)) (.cells tv 31); rwa [World.size_alloc] at this⟩
theorem RT.below {cv tv : Array Value} {w w2 w3 : World} (h : RT cv tv w w2) (hb : Below w2.heap.size w2 w3) : RT cv tv w w3 := ⟨h.b.trans (hb.mono h.b.size), obj_below hb h.e0, obj_below hb h.e1⟩
structure RI (cv tv : Array Value) (w wb : World) (L : List (List Int)) (v : Value) (m : Nat) (wr : World) : Prop where
  o : RT cv tv w wr
  b3 : Below wb.heap.size wb wr
  le : m ≤ L.length
  r : Kd.R k75 75 wr wb.heap.size (fun _ => True) v ((L.take m).map parse1)
theorem RI.below {cv tv : Array Value} {w wb : World} {L : List (List Int)} {v : Value} {m : Nat} {wr w' : World} (h : RI cv tv w wb L v m wr) (hb : Below wr.heap.size wr w') : RI cv tv w wb L v m w' := ⟨h.o.below hb, h.b3.trans (hb.mono h.b3.size), h.le, Kd.R_below h.r hb⟩
theorem RParse_calls (A : Option Addr) (c : Nat) (l : List Int) (w : World) (hr : Kd.C (Kd.int .u8) w A l.length l) (hc : l.length ≤ c) (hb : ∀ x ∈ l, Byte x) : Calls Tryd.prog 34 #[.slice A l.length c] w fun e w' => e = .returned (.tuple #[.agg (cReq (parse1 l).f0.f0 (parse1 l).f0.f1 (parse1 l).f0.f2 (parse1 l).f0.f3 (parse1 l).f0.f4), .int .i64 (errOf l)]) ∧ Below w.heap.size w w' :=
  RParse_by A c l w hr hc hb
theorem RSplit_calls (A : Option Addr) (c : Nat) (l : List Int) (most : Int) (w : World) (hr : Kd.C (Kd.int .u8) w A l.length l) (hc : l.length ≤ c) (hn : l.length ≤ 1000) : Calls Tryd.prog 33 #[.slice A l.length c, .int .i64 most] w fun e w' => (∃ A2 c2, e = .returned (.slice A2 (pcs l most).length c2) ∧ (pcs l most).length ≤ c2 ∧ Kd.C (Kd.slice 5 (Kd.int .u8)) w' A2 (pcs l most).length (pcs l most)) ∧ Below w.heap.size w w' := by
  refine (rampartref03_Split.calls 70 _ A c l most (pcs l most) w (Kd.V_mk hc (Kd.C_F (Kd.heap_int .u8) hr)) (RSplit_at 70 (by decide) l most hn)).mono ?_
  rintro e w' ⟨v, rfl, hS, hb⟩
  obtain ⟨A2, c2, rfl, hc2, hC⟩ := Kd.R_reads (Kd.S_R hS)
  exact ⟨⟨A2, c2, rfl, hc2, hC⟩, hb⟩
set_option maxRecDepth 100000 in
set_option maxHeartbeats 2000000 in
theorem RTick_hand (c0 c1 c2 c3 c4 c5 c7 t1 : Value) (owner reqs : Int) (A : Option Addr) (c : Nat) (B : List (List Int)) (w : World) (hlen : B.length ≤ c) (hread : Kd.C (Kd.slice 5 (Kd.int .u8)) w A B.length B) (hshort : ∀ x ∈ B, x.length ≤ 1000) (hby : ∀ x ∈ B, ∀ y ∈ x, Byte y) :
    Calls Tryd.prog 13 #[.agg #[c0, c1, c2, c3, c4, c5, .int .i64 reqs, c7], .agg #[.slice A B.length c, t1], .int .i64 owner] w fun e w' => ∃ v, e = .returned v ∧ Kd.R k75 75 w' w.heap.size (fun _ => True) v (items B owner reqs) ∧ Below w.heap.size w w' := by
  have HR := Aside0.mk (And.intro hlen (And.intro hread (And.intro hshort hby)))
  clear hlen hread hshort hby
  have H0 := Aside0.mk (RT.start #[c0, c1, c2, c3, c4, c5, .int .i64 reqs, c7] #[.slice A B.length c, t1] w)
  by_cases h0 : owner < 0 ∨ (B.length : Int) ≤ owner ∨ reqs < 1
  · have hit : items B owner reqs = [] := by
      unfold items
      split
      · rfl
      · have e : pcs (B.getD owner.toNat []) reqs = [] := by unfold pcs; rw [show reqs.toNat = 0 by omega, Nat.min_zero]; rfl
        rw [e]; rfl
    rw [hit]
    clear hit
    by_cases h1 : owner < 0
    · have d1 : decide (owner < 0) = true := decide_eq_true h1
      clear h0 h1
      go_enter Tryd.func13, Tryd.ntmps13
      go_upto_region 1 with fail
      generalize ((w.alloc (.cells #[c0, c1, c2, c3, c4, c5, .int .i64 reqs, c7] 28)).alloc (.cells #[.slice A B.length c, t1] 31)) = w2 at H0 ⊢
      go_wp2_with fail
      go_ret
      exact ⟨_, rfl, Kd.R_nil _ _ _ _ _, H0.out.b⟩
    · have d1 : decide (owner < 0) = false := decide_eq_false h1
      by_cases h2 : (B.length : Int) ≤ owner
      · have d2 : decide (owner ≥ (B.length : Int)) = true := decide_eq_true h2
        have d3 : decide ((B.length : Int) ≤ owner) = true := d2
        clear h0 h1 h2
        go_enter Tryd.func13, Tryd.ntmps13
        go_upto_region 1 with fail
        generalize ((w.alloc (.cells #[c0, c1, c2, c3, c4, c5, .int .i64 reqs, c7] 28)).alloc (.cells #[.slice A B.length c, t1] 31)) = w2 at H0 ⊢
        have y0 : w2.cell? ⟨w.heap.size + 1, 0, none⟩ = some (.slice A B.length c) := by simp [World.cell?, H0.out.e1]
        go_wp2_with fail
        go_ret
        exact ⟨_, rfl, Kd.R_nil _ _ _ _ _, H0.out.b⟩
      · have d2 : decide (owner ≥ (B.length : Int)) = false := decide_eq_false h2
        have d3 : decide ((B.length : Int) ≤ owner) = false := d2
        have d4 : decide (reqs < 1) = true := decide_eq_true (by omega)
        clear h0 h1 h2
        go_enter Tryd.func13, Tryd.ntmps13
        go_upto_region 1 with fail
        generalize ((w.alloc (.cells #[c0, c1, c2, c3, c4, c5, .int .i64 reqs, c7] 28)).alloc (.cells #[.slice A B.length c, t1] 31)) = w2 at H0 ⊢
        have y0 : w2.cell? ⟨w.heap.size + 1, 0, none⟩ = some (.slice A B.length c) := by simp [World.cell?, H0.out.e1]
        have y6 : w2.cell? ⟨w.heap.size, 6, none⟩ = some (.int .i64 reqs) := by simp [World.cell?, H0.out.e0]
        go_wp2_with fail
        go_ret
        exact ⟨_, rfl, Kd.R_nil _ _ _ _ _, H0.out.b⟩
  · have d1 : decide (owner < 0) = false := decide_eq_false (by omega)
    have d2 : decide (owner ≥ (B.length : Int)) = false := decide_eq_false (by omega)
    have d3 : decide ((B.length : Int) ≤ owner) = false := d2
    have d4 : decide (reqs < 1) = false := decide_eq_false (by omega)
    have hx0 : (0 : Int) ≤ owner := by omega
    have hx1 : owner < (B.length : Int) := by omega
    obtain ⟨ad, Ae, ce, rfl, xe, hle, hCe⟩ := el_at HR.out.2.1 owner hx0 hx1
    have hit : items B owner reqs = (pcs (B.getD owner.toNat []) reqs).map parse1 := by unfold items; rw [if_neg (by omega)]
    rw [hit]
    have hm : B.getD owner.toNat [] ∈ B := by
      have hlt : owner.toNat < B.length := by omega
      rw [List.getD_eq_getElem?_getD, List.getElem?_eq_getElem hlt]
      exact List.getElem_mem hlt
    have HL := Aside0.mk (And.intro hle (And.intro hCe (And.intro (HR.out.2.2.1 _ hm) (HR.out.2.2.2 _ hm))))
    clear hit hle hCe hm h0
    generalize B.getD owner.toNat [] = L at HL xe ⊢
    go_enter Tryd.func13, Tryd.ntmps13
    go_upto_region 1 with fail
    generalize ((w.alloc (.cells #[c0, c1, c2, c3, c4, c5, .int .i64 reqs, c7] 28)).alloc (.cells #[.slice (some ad) B.length c, t1] 31)) = w2 at H0 ⊢
    have y0 : w2.cell? ⟨w.heap.size + 1, 0, none⟩ = some (.slice (some ad) B.length c) := by simp [World.cell?, H0.out.e1]
    have y6 : w2.cell? ⟨w.heap.size, 6, none⟩ = some (.int .i64 reqs) := by simp [World.cell?, H0.out.e0]
    have xe' := pw_cell_below H0.out.b xe
    go_upto_region 3 with fail
    refine wp_region_held_drew (S := fun w' => Below w2.heap.size w2 w') (by kernel_rfl) (pw_below_drewN (Below.refl _ _) 1) (fun hHeld => ?_)
    generalize w2.drew = wd at hHeld ⊢
    refine tk (i := 0) (v := _) 26 rfl (Or.inl ⟨by rfl, fun w' hW => by have h0 := pw_cell_below hW y0; have h6 := pw_cell_below hW y6; have he := pw_cell_below hW xe'; go_simp; try (first | with_reducible rfl | rfl)⟩) hHeld ?_
    try simp only [putL, putN, List.set]
    refine tk (i := 2) (v := _) 28 rfl (Or.inl ⟨by rfl, fun w' hW => by have h0 := pw_cell_below hW y0; have h6 := pw_cell_below hW y6; have he := pw_cell_below hW xe'; go_simp; try (first | with_reducible rfl | rfl)⟩) hHeld ?_
    try simp only [putL, putN, List.set]
    refine tk (i := 5) (v := _) 31 rfl (Or.inl ⟨by rfl, fun w' hW => by have h0 := pw_cell_below hW y0; have h6 := pw_cell_below hW y6; have he := pw_cell_below hW xe'; go_simp; try (first | with_reducible rfl | rfl)⟩) hHeld ?_
    try simp only [putL, putN, List.set]
    refine tk (i := 1) (v := _) 27 rfl (Or.inl ⟨by rfl, fun w' hW => by have h0 := pw_cell_below hW y0; have h6 := pw_cell_below hW y6; have he := pw_cell_below hW xe'; go_simp; try (first | with_reducible rfl | rfl)⟩) hHeld ?_
    try simp only [putL, putN, List.set]
    refine tk (i := 6) (v := _) 32 rfl (Or.inl ⟨by rfl, fun w' hW => by have h0 := pw_cell_below hW y0; have h6 := pw_cell_below hW y6; have he := pw_cell_below hW xe'; go_simp; try (first | with_reducible rfl | rfl)⟩) hHeld ?_
    try simp only [putL, putN, List.set]
    refine tk (i := 3) (v := _) 29 rfl (Or.inl ⟨by rfl, fun w' hW => by have h0 := pw_cell_below hW y0; have h6 := pw_cell_below hW y6; have he := pw_cell_below hW xe'; go_simp; try (first | with_reducible rfl | rfl)⟩) hHeld ?_
    try simp only [putL, putN, List.set]
    refine tk (i := 4) (v := _) 30 rfl (Or.inl ⟨by rfl, fun w' hW => by have h0 := pw_cell_below hW y0; have h6 := pw_cell_below hW y6; have he := pw_cell_below hW xe'; go_simp; try (first | with_reducible rfl | rfl)⟩) hHeld ?_
    try simp only [putL, putN, List.set]
    have N0 := Aside0.mk hHeld
    refine wpAnyH_ready (rs := [7]) (by kernel_rfl) (by simp) ?_
    refine AllReadyH.cons rfl (fun K hK => ?_) AllReadyH.nil
    go_simp
    go_wp2_with (first | (go_at_call 33; refine (RSplit_calls Ae ce L reqs _ (Kd.C_below HL.out.2.1 (H0.out.b.trans (N0.out.mono H0.out.b.size))) HL.out.1 HL.out.2.2.1).mono ?_; rintro e w3 ⟨⟨Aq, cq, rfl, hcq, hCq⟩, hb⟩; have HP := Aside0.mk (And.intro hcq hCq); have N3 := Aside0.mk (below_step N0.out hb); clear hb hcq hCq))
    clear hHeld
    refine hK.out _ _ N3.out (fun hHeld => ?_)
    clear hK K
    try simp only [putL, putN, List.set]
    refine tk (i := 8) (v := _) 7 rfl (Or.inl ⟨by rfl, fun w' hW => by have h0 := pw_cell_below hW y0; have h6 := pw_cell_below hW y6; have he := pw_cell_below hW xe'; go_simp; try (first | with_reducible rfl | rfl)⟩) hHeld ?_
    try simp only [putL, putN, List.set]
    refine wpAnyH_done (by kernel_rfl) ?_ _
    clear hHeld
    have HPL : Aside0 ((pcs L reqs).length ≤ 63) := ⟨by have := HL.out.2.2.1; unfold pcs; rw [List.length_map, List.length_range]; omega⟩
    have HPB : Aside0 (∀ p ∈ pcs L reqs, ∀ x ∈ p, Byte x) := ⟨pcs_byte HL.out.2.2.2 reqs⟩
    obtain ⟨P, hPq⟩ : ∃ q, pcs L reqs = q := ⟨_, rfl⟩
    rw [hPq] at HP HPL HPB ⊢
    have HPE := Aside0.mk hPq
    clear hPq
    have HI0 : Aside0 (RI #[c0, c1, c2, c3, c4, c5, .int .i64 reqs, c7] #[.slice (some ad) B.length c, t1] w w3 P (.slice none 0 0) 0 w3) := ⟨⟨H0.out.below N3.out, Below.refl _ _, Nat.zero_le _, Kd.R_nil _ _ _ _ _⟩⟩
    go_wp2_with fail
    clear y0 y6 xe xe' d1 d2 d3 d4
    go_loopw [8, 9] (fun o i wr => ∃ m : Nat, i = .int .i64 (m : Int) ∧ Aside0 (RI #[c0, c1, c2, c3, c4, c5, .int .i64 reqs, c7] #[.slice (some ad) B.length c, t1] w w3 P o m wr)) (fun _ i _ => P.length - (intOf i).toNat)
    case atStart => exact ⟨0, rfl, HI0⟩
    case round =>
      clear HI0
      obtain ⟨m, rfl, hS⟩ := hrel
      by_cases h1 : m < P.length
      · have H1 := Aside0.mk h1
        have d1 : decide ((m : Int) < (P.length : Int)) = true := decide_eq_true (by omega)
        have d3 : decide (m < P.length) = true := decide_eq_true h1
        have hx0 : (0 : Int) ≤ (m : Int) := by omega
        have hx1 : (m : Int) < (P.length : Int) := by omega
        obtain ⟨ap, Ap, cp, eP, qp, lp, gp⟩ := el_at (Kd.C_below HP.out.2 hS.out.b3) (m : Int) hx0 hx1
        subst eP
        rw [Int.toNat_natCast] at qp lp gp
        have hby : ∀ x ∈ P.getD m [], Byte x := HPB.out _ (by rw [List.getD_eq_getElem?_getD, List.getElem?_eq_getElem h1]; exact List.getElem_mem h1)
        have HTK : Aside0 ((P.take (m + 1)).map parse1 = (P.take m).map parse1 ++ [parse1 (P.getD m [])]) := ⟨by
          rw [List.take_succ_eq_append_getElem h1, List.map_append, List.getD_eq_getElem?_getD, List.getElem?_eq_getElem h1]
          rfl⟩
        have HML : Aside0 (((P.take m).map parse1).length ≤ 1000) := ⟨by rw [List.length_map, List.length_take]; have := HPL.out; omega⟩
        generalize P.getD m [] = l at qp lp gp hby HTK
        have HX := Aside0.mk (And.intro lp (And.intro gp hby))
        have hw : wrap64 ((m : Int) + 1) = (m : Int) + 1 := by have := HPL.out; unfold wrap64; omega
        have HH : Aside0 (P.length - ((m : Int) + 1).toNat < P.length - ((m : Int)).toNat) := ⟨by omega⟩
        clear lp gp hby h1
        have HER := Aside0.mk (errOf_eq l)
        have hpc := Aside0.mk (RParse_calls Ap cp l wr HX.out.2.1 HX.out.1 HX.out.2.2)
        generalize errOf l = er at HER hpc
        generalize parse1 l = px at HER hpc HTK
        have hpx : px = ⟨⟨px.f0.f0, px.f0.f1, px.f0.f2, px.f0.f3, px.f0.f4⟩, er == 0⟩ := by rw [HER.out]
        have HPX := Aside0.mk hpx
        clear hpx
        go_upto_region 9 with (go_at_call 34; refine hpc.out.mono ?_; rintro e wp ⟨rfl, hb⟩; have NP := Aside0.mk hb; clear hb)
        have HEA : Aside0 ((wp.alloc (.cells (cReq px.f0.f0 px.f0.f1 px.f0.f2 px.f0.f3 px.f0.f4) 55)).heap[wp.heap.size]? = some (.cells (cReq px.f0.f0 px.f0.f1 px.f0.f2 px.f0.f3 px.f0.f4) 55 (0, 0))) := ⟨World.alloc_heap_new _ _⟩
        have HBA : Aside0 (Below wr.heap.size wr (wp.alloc (.cells (cReq px.f0.f0 px.f0.f1 px.f0.f2 px.f0.f3 px.f0.f4) 55))) := ⟨NP.out.alloc NP.out.size _⟩
        generalize (wp.alloc (.cells (cReq px.f0.f0 px.f0.f1 px.f0.f2 px.f0.f3 px.f0.f4) 55)) = wa at HEA HBA ⊢
        generalize wp.heap.size = gb at HEA ⊢
        go_wp2_with (first | ((with_reducible refine gate_ (.load 55 (.tmp 10)) rfl ?_); refine load_blk rfl 55 (.tmp 10) rfl gb (cReq px.f0.f0 px.f0.f1 px.f0.f2 px.f0.f3 px.f0.f4) 55 rfl _ HEA.out Tryd.underlying55 rfl (by kernel_rfl) ?_) | ((with_reducible refine gate_builtin (b := .append) rfl ?_); at_builtin; go_loud (refine Kd.R_append k75 (w0 := w3) w3.heap.size rfl (.tmp 48) (.tmp 53) 34 75 _ 24 rfl Tryd.underlying34 info75 rfl (by decide) (by decide) _ ((P.take m).map parse1) px _ (fun _ => True) (fun _ => False) rfl rfl (by rw [HPX.out]; exact k75_mkM _ _ _ _) (fun _ h => h.elim) (fun _ _ => trivial) (hS.out.below HBA.out).r (hS.out.below HBA.out).b3 (hS.out.below HBA.out).b3.size (by have := HML.out; omega) ?_); intro v1 w7 hR7 hB7 hg7 hat7; have HR7 := Aside0.mk (And.intro hR7 (And.intro hB7 hg7)); clear hR7 hB7 hg7 hat7))
        have HSA := (hS.out.below HBA.out).o
        have keep : ∀ (g : Nat) (cs : Array Value) (t : TypeId), wa.heap[g]? = some (.cells cs t (0, 0)) → (75 : Nat) ≠ t → w7.heap[g]? = some (.cells cs t (0, 0)) := fun g cs t hg ht => (HR7.out.2.2.block g (Array.getElem?_eq_some_iff.1 hg).1 (Kd.R_ne (hS.out.below HBA.out).r hg ht)).trans hg
        refine ⟨⟨m + 1, by rw [hw]; rfl, ⟨⟨⟨(H0.out.below N3.out).b.trans (HR7.out.2.1.mono (H0.out.below N3.out).b.size), keep _ _ _ HSA.e0 (by decide), keep _ _ _ HSA.e1 (by decide)⟩, HR7.out.2.1, by have := H1.out; omega, by rw [HTK.out]; exact HR7.out.1⟩⟩⟩, by rw [hw]; exact HH.out⟩
      · have d1 : decide ((m : Int) < (P.length : Int)) = false := decide_eq_false (by omega)
        have d3 : decide (m < P.length) = false := decide_eq_false h1
        have hm : m = P.length := by have := hS.out.le; omega
        have hfin := hS.out.r
        rw [hm, List.take_length] at hfin
        have HF := Aside0.mk hfin
        clear hfin
        go_wp2_with fail
        go_ret
        exact ⟨_, rfl, by rw [HPE.out]; exact Kd.R_lower HF.out (H0.out.below N3.out).b.size, hS.out.o.b⟩
end Go.Proofs.YtoliipbmcekciaaDoor.QDc

namespace Go.Proofs.YtoliipbmcekciaaDoor.QDd
open Go.RowKit Go.Shelf Go.Proofs.YtoliipbmcekciaaDoorW.PrintWords Go.Proofs.YtoliipbmcekciaaDoorW.PrintLast Go.Proofs.YtoliipbmcekciaaDoorW.PrintMore
open Go.Proofs.YtoliipbmcekciaaDoor.QDc (tk putL putN obj_below take_at yields_blk load_blk load_any run_load_any store_blk blk_setCells setAll far_setCells below_setCells Glob Byte)
set_option linter.unusedVariables false
set_option linter.unusedSimpArgs false
attribute [local go_sem] Oper.semAt_some
/-- The document's Tick. -/
theorem RTick_R (C : Cf) (A0 : Option Addr) (c0 : Nat) (B : List (List Int)) (A1 : Option Addr) (c1 : Nat) (pk : List Int) (owner : Int) (w : World) (hC : C.At w) (l0 : B.length ≤ c0) (g0 : Kd.C (Kd.slice 5 (Kd.int .u8)) w A0 B.length B) (l1 : pk.length ≤ c1) (g1 : Kd.C (Kd.int .i64) w A1 pk.length pk) (hs : ∀ x ∈ B, x.length ≤ 1000) (hb : ∀ x ∈ B, ∀ y ∈ x, Byte y) :
    Calls Tryd.prog 13 #[.agg C.v, .agg #[.slice A0 B.length c0, .slice A1 pk.length c1], .int .i64 owner] w fun e w' => ∃ v, e = .returned v ∧ Kd.R QDc.k75 75 w' w.heap.size (fun _ => True) v (QDc.items B owner C.a6) ∧ Below w.heap.size w w' := by
  exact QDc.RTick_hand _ _ _ _ _ _ _ _ owner C.a6 A0 c0 B w l0 g0 hs hb
theorem yields_any {P : Program} {a : Act} {ops : Array Oper} {S : World → Prop} {op : Oper} (hw : Region.wanted op (yielded ops a.tmps) = true) (ty : TypeId) (x : Operand) (ho : op.op = .load ty x) (ad : Addr) (hx : a.eval x = .pointer (some ad)) (C : Array Value) (d : TypeDesc) (hc : ∀ w, S w → ∀ j v, C.toList[j]? = some v → w.cell? (ad.add j) = some v)
    (hu : P.underlying ty = some d) (hd : d.isRow = true) (hi : (P.info? ty).map (·.size) = some C.size) : YieldsIf P ops S op (.agg C) a :=
  .inl ⟨hw, fun w h => by
    unfold execOp
    simp only [ho, hx, Instr.loadAt, Instr.sureAddr, Sem.run_bind, Sem.run_pure, Result.andThen_ok, run_load_any w ad ty C.toList d (hc w h) hu hd (by simpa using hi)]⟩
structure TicksR (A : Option Addr) (c : Nat) (L : List S31) (w : World) : Prop extends Ticks A c L w where
  byte : ∀ t ∈ L, ∀ x ∈ t.f0, ∀ y ∈ x, Byte y
set_option maxRecDepth 100000 in
set_option maxHeartbeats 2000000 in
theorem RScript_no (C : Cf) (A : Option Addr) (n c : Nat) (w : World) (hC : C.At w) (hL : C.Lim) (hce : (chkF C).2 ≠ 0) :
    Calls Tryd.prog 31 #[.agg C.v, .slice A n c] w fun e w' => e = .returned (.tuple #[.slice none 0 0, .int .i64 (chkF C).2]) ∧ Below w.heap.size w w' := by
  have HC := Aside0.mk hC
  have HL := Aside0.mk hL
  clear hC hL
  obtain ⟨⟨cn, ce⟩, hq⟩ : ∃ q, chkF C = q := ⟨_, rfl⟩
  rw [hq] at hce ⊢
  have HQ := Aside0.mk hq
  clear hq
  have d0 : (ce != 0) = true := by simpa using hce
  have d0' : decide (ce = 0) = false := decide_eq_false hce
  dsimp only at hce ⊢
  clear hce
  go_enter Tryd.func31, Tryd.ntmps31
  go_upto_region 1 with fail
  have HO := Aside0.mk (OB.start C w)
  generalize w.alloc (.cells C.v 28) = w2 at HO ⊢
  go_wp2_with (first | ((with_reducible refine gate_ (.load 28 (.tmp 2)) rfl ?_); refine load_blk rfl 28 (.tmp 2) rfl w.heap.size C.v 28 rfl _ HO.out.e0 Tryd.underlying28 rfl (by kernel_rfl) ?_) | (go_at_call 16; refine (Check_calls C _ (HC.out.below HO.out.b) HL.out).mono ?_; rintro e w3 ⟨rfl, hb⟩; rw [HQ.out]; have N3 := Aside0.mk hb; clear hb))
  go_ret2
  exact ⟨rfl, (HO.out.below N3.out).b⟩
set_option maxRecDepth 100000 in
set_option maxHeartbeats 2000000 in
theorem RScript_go (C : Cf) (A : Option Addr) (c : Nat) (L : List S31) (w : World) (hC : C.At w) (hL : C.Lim) (hT : TicksR A c L w) (hce : (chkF C).2 = 0) :
    Calls Tryd.prog 31 #[.agg C.v, .slice A L.length c] w fun e w' => ∃ v, e = .returned (.tuple #[v, .int .i64 0]) ∧ Kd.R kRow 34 w' w.heap.size (fun _ => True) v (scr C.l4 C.a6 L L.length) ∧ Below w.heap.size w w' := by
  have HC := Aside0.mk hC
  have HL := Aside0.mk hL
  have HT := Aside0.mk hT
  have HF : Aside0 (1 ≤ C.l4.length ∧ C.l4.length ≤ 64) := ⟨by have := (chk_good hce).f; exact ⟨Nat.pos_of_ne_zero this.2.1, this.1⟩⟩
  obtain ⟨⟨cn, ce⟩, hq⟩ : ∃ q, chkF C = q := ⟨_, rfl⟩
  have hce' : ce = 0 := by rw [hq] at hce; exact hce
  subst hce'
  have HQ := Aside0.mk hq
  clear hq hC hL hT hce
  go_enter Tryd.func31, Tryd.ntmps31
  go_upto_region 1 with fail
  have HO := Aside0.mk (OB.start C w)
  generalize w.alloc (.cells C.v 28) = w2 at HO ⊢
  have hm20 : L.length ≤ 20 := HT.out.most
  have dm : decide ((L.length : Int) > 1048576) = false := decide_eq_false (by omega)
  have dm' : decide (1048576 < (L.length : Int)) = false := dm
  go_wp2_with (first | ((with_reducible refine gate_ (.load 28 (.tmp 2)) rfl ?_); refine load_blk rfl 28 (.tmp 2) rfl w.heap.size C.v 28 rfl _ HO.out.e0 Tryd.underlying28 rfl (by kernel_rfl) ?_) | (go_at_call 16; refine (Check_calls C _ (HC.out.below HO.out.b) HL.out).mono ?_; rintro e w3 ⟨rfl, hb⟩; rw [HQ.out]; have N3 := Aside0.mk hb; clear hb))
  have HI0 : Aside0 (ScrI C L w (.slice none 0 0) 0 w3) := ⟨⟨HO.out.below N3.out, Nat.zero_le _, Kd.R_nil _ _ _ _ _⟩⟩
  clear N3 HO
  go_loopw [8, 9] (fun o i wr => ∃ m : Nat, i = .int .i64 (m : Int) ∧ Aside0 (ScrI C L w o m wr)) (fun _ i _ => L.length - (intOf i).toNat)
  case atStart => exact ⟨0, rfl, HI0⟩
  case round =>
    clear HI0
    obtain ⟨m, rfl, hS⟩ := hrel
    by_cases h1 : m < L.length
    · have H1 := Aside0.mk h1
      have d1 : decide ((m : Int) < (L.length : Int)) = true := decide_eq_true (by omega)
      have hx0 : (0 : Int) ≤ (m : Int) := by omega
      have hx1 : (m : Int) < (L.length : Int) := by omega
      have hby : ∀ x ∈ (L.getD m z31).f0, ∀ y ∈ x, Byte y := HT.out.byte _ (by rw [List.getD_eq_getElem?_getD, List.getElem?_eq_getElem h1]; exact List.getElem_mem h1)
      have x4 : wr.cell? ⟨w.heap.size, 4, none⟩ = some (.slice C.A4 C.l4.length C.c4) := by simp [World.cell?, hS.out.o.e0]
      obtain ⟨ow, how⟩ : ∃ q, rd C.l4 ((m % C.l4.length : Nat) : Int) = q := ⟨_, rfl⟩
      have HOE := Aside0.mk how
      go_upto_region 11 with (go_at_call 19; refine (ROwner_calls C.A4 C.c4 C.l4 m _ HF.out.1 HF.out.2 (by have := HT.out.most; have := H1.out; omega) (HC.out.below hS.out.o.b).r4).mono ?_; rintro e wo ⟨rfl, hb⟩; rw [HOE.out]; have NO := Aside0.mk hb; clear hb)
      have HSO := Aside0.mk (hS.out.below NO.out)
      obtain ⟨ad, A0, c0, A1, c1, eA, hcell, l0, g0, l1, g1, hsh⟩ := tick_at HT.out.toTicks m h1
      subst eA
      obtain ⟨t, ht⟩ : ∃ t, L.getD m z31 = t := ⟨_, rfl⟩
      rw [ht] at hcell l0 g0 l1 g1 hsh hby
      have HTT : Aside0 (scrAt C.l4 C.a6 L m = QDc.items t.f0 ow C.a6) := ⟨by unfold scrAt; rw [ht, how]⟩
      have HX := Aside0.mk (And.intro hcell (And.intro l0 (And.intro g0 (And.intro l1 (And.intro g1 (And.intro hsh hby))))))
      have hw : wrap64 ((m : Int) + 1) = (m : Int) + 1 := by unfold wrap64; omega
      clear hcell l0 g0 l1 g1 hsh hby h1 ht how x4 NO
      obtain ⟨vs0, ho0⟩ := Kd.R_own HSO.out.r
      have HOW := Aside0.mk ho0
      clear ho0
      have NW : Aside0 (Below wo.heap.size wo wo.drew) := ⟨below_drew (Below.refl _ _)⟩
      refine wp_region_held_drew (S := OB C w) (by kernel_rfl) (HSO.out.o.below NW.out) (fun hHeld => ?_)
      generalize wo.drew = wd at hHeld NW ⊢
      refine tk (i := 0) (v := _) 36 rfl (Or.inl ⟨by rfl, fun w' hW => by go_simp; try (first | with_reducible rfl | rfl)⟩) hHeld ?_
      try simp only [putL, putN, List.set]
      refine tk (i := 2) (v := _) 38 rfl (Or.inl ⟨by rfl, fun w' hW => by go_simp; try (first | with_reducible rfl | rfl)⟩) hHeld ?_
      try simp only [putL, putN, List.set]
      refine tk (i := 3) (v := _) 39 rfl (Or.inl ⟨by rfl, fun w' hW => by go_simp; try (first | with_reducible rfl | rfl)⟩) hHeld ?_
      try simp only [putL, putN, List.set]
      refine tk (i := 6) (v := _) 42 rfl (Or.inl ⟨by rfl, fun w' hW => by go_simp; try (first | with_reducible rfl | rfl)⟩) hHeld ?_
      try simp only [putL, putN, List.set]
      refine tk (i := 1) (v := _) 37 rfl (yields_blk (by rfl) 28 (.tmp 2) rfl w.heap.size _ 28 rfl _ (fun w' hW => hW.e0) Tryd.underlying28 rfl (by kernel_rfl)) hHeld ?_
      try simp only [putL, putN, List.set]
      refine tk (i := 4) (v := _) 40 rfl (Or.inl ⟨by rfl, fun w' hW => by go_simp; try (first | with_reducible rfl | rfl)⟩) hHeld ?_
      try simp only [putL, putN, List.set]
      refine tk (i := 5) (v := _) 41 rfl (yields_any (by rfl) 31 (.tmp 40) rfl (ad.add (m * 2)) rfl #[.slice A0 t.f0.length c0, .slice A1 t.f1.length c1] _ (fun w' hW j v hj => pw_cell_below hW.b (HX.out.1 j v hj)) Tryd.underlying31 rfl (by kernel_rfl)) hHeld ?_
      try simp only [putL, putN, List.set]
      refine wpAnyH_ready (rs := [7]) (by kernel_rfl) (by simp) ?_
      refine AllReadyH.cons rfl (fun K hK => ?_) AllReadyH.nil
      go_simp
      go_wp2_with (first | (go_at_call 13; refine (RTick_R C A0 c0 t.f0 A1 c1 t.f1 ow _ (HC.out.below (HSO.out.o.below NW.out).b) HX.out.2.1 (Kd.C_below HX.out.2.2.1 (HSO.out.o.below NW.out).b) HX.out.2.2.2.1 (Kd.C_below HX.out.2.2.2.2.1 (HSO.out.o.below NW.out).b) HX.out.2.2.2.2.2.1 HX.out.2.2.2.2.2.2).mono ?_; rintro e wt ⟨vt, rfl, hR, hb⟩; obtain ⟨At, ct, rfl, _, _⟩ := Kd.R_reads hR; have HRT := Aside0.mk hR; have NT := Aside0.mk (below_step NW.out hb); clear hR hb))
      clear hHeld
      refine hK.out _ _ (HSO.out.below NT.out).o (fun hHeld => ?_)
      clear hK K
      try simp only [putL, putN, List.set]
      refine wpAnyH_ready (rs := [8]) (by kernel_rfl) (by simp) ?_
      refine AllReadyH.cons rfl (fun K hK => ?_) AllReadyH.nil
      go_simp
      refine hK.out _ _ ((HSO.out.below NT.out).o.below ((Below.refl _ wt).alloc (Nat.le_refl _) _)) (fun hHeld => ?_)
      clear hK K
      try simp only [putL, putN, List.set]
      refine wpAnyH_ready (rs := [9]) (by kernel_rfl) (by simp) ?_
      refine AllReadyH.cons rfl (fun K hK => ?_) AllReadyH.nil
      go_loud (refine Kd.R_append_step kRow (w0 := w) w.heap.size (by rfl) (.tmp 36) (.tmp 44) 68 34 (.slice none 0 0) 24 rfl Tryd.underlying68 info34 rfl (by decide) (by decide) _ (scr C.l4 C.a6 L m) (scrAt C.l4 C.a6 L m) [.slice At (QDc.items t.f0 ow C.a6).length ct] (fun _ => True) _ rfl rfl ⟨_, rfl, Kd.R_lower (by rw [HTT.out]; exact Kd.R_new (Kd.R_lower HRT.out NW.out.size) HOW.out) HSO.out.o.b.size⟩ (fun _ h => h) (fun _ _ => trivial) (HSO.out.below NT.out).r (HSO.out.below NT.out).o.b (HSO.out.below NT.out).o.b.size (by rw [scr_len]; have := HT.out.most; have := H1.out; omega) ?_)
      intro v1 w7 hR7 hB7 hg7 hat7
      have HR7 := Aside0.mk (And.intro hR7 (And.intro hB7 hg7))
      clear hHeld
      have HB7 : Aside0 (OB C w w7) := ⟨⟨hB7, (hg7.block _ (Array.getElem?_eq_some_iff.1 (HSO.out.below NT.out).o.e0).1 (Kd.R_ne (HSO.out.below NT.out).r (HSO.out.below NT.out).o.e0 (by decide))).trans (HSO.out.below NT.out).o.e0⟩⟩
      clear hR7 hB7 hg7 hat7
      refine hK.out _ _ HB7.out (fun hHeld => ?_)
      clear hK K
      try simp only [putL, putN, List.set]
      refine tk (i := 10) (v := _) 8 rfl (Or.inl ⟨by rfl, fun w' hW => by go_simp; try (first | with_reducible rfl | rfl)⟩) hHeld ?_
      try simp only [putL, putN, List.set]
      refine wpAnyH_done (by kernel_rfl) ?_ _
      clear hHeld
      go_wp2
      exact ⟨⟨m + 1, by go_num, ⟨⟨HB7.out, by have := H1.out; omega, by rw [scr_snoc]; exact HR7.out.1⟩⟩⟩, by simp [intOf]; have := H1.out; omega⟩
    · have d1 : decide ((m : Int) < (L.length : Int)) = false := decide_eq_false (by omega)
      have hm : m = L.length := by have := hS.out.le; omega
      subst hm
      go_wp2_with fail
      go_ret2
      exact ⟨_, rfl, hS.out.r, hS.out.o.b⟩
end Go.Proofs.YtoliipbmcekciaaDoor.QDd

