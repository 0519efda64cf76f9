/- Texts of this claim, joined: rPDc, rSDc. -/
import Derived.Test.YtoliipbmcekciaaDoorZ01
import Derived.Test.YtoliipbmcekciaaDoorZ12
namespace Go.Proofs.YtoliipbmcekciaaDoor.QDc
open Go.RowKit Go.Proofs.YtoliipbmcekciaaDoorW.PrintWords Go.Proofs.YtoliipbmcekciaaDoorW.PrintLast Go.Proofs.YtoliipbmcekciaaDoorW.PrintMore
set_option linter.unusedVariables false
set_option linter.unusedSimpArgs false

/-- The result's box, in a world that has grown from w. -/
def OB (w w1 : World) : Prop := Below w.heap.size w w1 ∧ w1.heap[w.heap.size]? = some (.cells (cReq 0 0 0 0 0) 55 (0, 0))
theorem OB.start (w : World) : OB w (w.alloc (.cells (cReq 0 0 0 0 0) 55)) := ⟨below_alloc (Below.refl _ _) _, heap_alloc_new _ _⟩
theorem OB.below {w w1 w2 : World} (h : OB w w1) (hb : Below w1.heap.size w1 w2) : OB w w2 := ⟨below_step h.1 hb, obj_below hb h.2⟩
theorem OB.stored {w w1 : World} (h : OB w w1) (k a r hh p : Int) : Below w.heap.size w (w1.setCells w.heap.size 0 (cReq k a r hh p).toList) ∧ (w1.setCells w.heap.size 0 (cReq k a r hh p).toList).heap[w.heap.size]? = some (.cells (cReq k a r hh p) 55 (0, 0)) :=
  ⟨below_setCells (Nat.le_refl _) _ _ _ h.1, by rw [blk_setCells _ 0 _ w1 h.2, setReq _ _ _ _ _ _ (by simp)]⟩
/-- A store into the box g, which is not the result's. -/
theorem OB.other {w w1 : World} {g : Nat} (h : OB w w1) (hg : w.heap.size < g) (vs : List Value) : OB w (w1.setCells g 0 vs) :=
  ⟨below_setCells (by omega) _ _ _ h.1, (far_setCells (by omega) vs 0 w1).trans h.2⟩
set_option maxRecDepth 100000 in
set_option maxHeartbeats 1000000 in
theorem Parse_long (A : Option Addr) (c n : Nat) (w : World) (h16 : n ≠ 16) : Calls Tryd.prog 61 #[.slice A n c] w fun e w' => e = .returned (.tuple #[.agg (cReq 0 0 0 0 0), .int .i64 30]) ∧ Below w.heap.size w w' := by
  have hd : ((n : Int) != 16) = true := bne_iff_ne.mpr (by omega)
  have hd2 : ((n : Int) == 16) = false := beq_false_of_ne (by omega)
  clear h16
  go_enter Tryd.func61, Tryd.ntmps61
  go_wp2
  go_returns
  refine ⟨?_, ?_⟩
  · rfl
  · repeat (first | exact Below.refl _ _ | apply below_alloc | apply pw_below_drewN | apply below_drew1)
set_option maxRecDepth 100000 in
set_option maxHeartbeats 1000000 in
theorem Parse_three (ad : Addr) (c : Nat) (l : List Int) (w : World) (hr : Kd.C (Kd.int .u8) w (some ad) 16 l) (h3 : rd l 3 ≠ 0) : Calls Tryd.prog 61 #[.slice (some ad) 16 c] w fun e w' => e = .returned (.tuple #[.agg (cReq 0 0 0 0 0), .int .i64 30]) ∧ Below w.heap.size w w' := by
  obtain ⟨ad', he, x3⟩ := Kd.at_int hr 3 (by omega) (by omega)
  injection he with he
  subst he
  have x3' : (w.alloc (.cells (cReq 0 0 0 0 0) 55)).cell? ⟨ad.block, ad.off + 3, none⟩ = some (.int .u8 (rd l 3)) := pw_cell_below (below_alloc (Below.refl w.heap.size w) (.cells (cReq 0 0 0 0 0) 55)) x3
  dsimp only [cReq] at x3'
  have hd : (rd l 3 == 0) = false := beq_false_of_ne h3
  have hd2 : (rd l 3 != 0) = true := bne_iff_ne.mpr h3
  clear h3
  go_enter Tryd.func61, Tryd.ntmps61
  go_wp2
  go_returns
  refine ⟨?_, ?_⟩
  · rfl
  · repeat (first | exact Below.refl _ _ | apply below_alloc | apply pw_below_drewN | apply below_drew1)

theorem below_of_ob {w w1 : World} (h : OB w w1) : Below w.heap.size w w1 := h.1
set_option maxRecDepth 100000 in
set_option maxHeartbeats 4000000 in
theorem Parse_ok (k : Nat) (ad : Addr) (c : Nat) (l : List Int) (w : World) (hc : 16 ≤ c) (h16 : l.length = 16) (hr : Kd.C (Kd.int .u8) w (some ad) 16 l) (hg : Glob w) (b0 b1 b2 : Int) (hb0 : rd l 0 = b0) (hb1 : rd l 1 = b1) (hb2 : rd l 2 = b2) (h3 : rd l 3 = 0) (t1 t2 : Int) (h1 : wire_part_get.f k 4 4 l = some t1) (h2 : wire_part_get.f k 8 8 l = some t2) (hk : wire_Check.f k b0 b1 b2 (t1 % 4294967296) t2 = some 0) :
    Calls Tryd.prog 61 #[.slice (some ad) 16 c] w fun e' w' => e' = .returned (.tuple #[.agg (cReq b0 b1 b2 (t1 % 4294967296) t2), .int .i64 0]) ∧ Below w.heap.size w w' := by
  have HCK := Aside0.mk hk
  clear hk
  have HGX := Aside0.mk hg
  have HR := Aside0.mk hr
  have HG1 : Aside0 (∀ w', Below w.heap.size w w' → Calls Tryd.prog 87 #[.agg #[.int .i64 4, .int .i64 4], .slice (some ad) 16 c] w' fun e w'' => e = .returned (.int .u64 t1) ∧ Below w'.heap.size w' w'') := ⟨fun w' hb => by
    have := wire_part_get.calls k 4 4 (some ad) c l t1 w' (by rw [h16]; exact Kd.C_below hr hb) (by omega) h1
    rw [h16] at this
    exact this⟩
  have HG2 : Aside0 (∀ w', Below w.heap.size w w' → Calls Tryd.prog 87 #[.agg #[.int .i64 8, .int .i64 8], .slice (some ad) 16 c] w' fun e w'' => e = .returned (.int .u64 t2) ∧ Below w'.heap.size w' w'') := ⟨fun w' hb => by
    have := wire_part_get.calls k 8 8 (some ad) c l t2 w' (by rw [h16]; exact Kd.C_below hr hb) (by omega) h2
    rw [h16] at this
    exact this⟩
  obtain ⟨a0, e0, x0⟩ := Kd.at_int hr 0 (by omega) (by omega)
  obtain ⟨a1, e1, x1⟩ := Kd.at_int hr 1 (by omega) (by omega)
  obtain ⟨a2, e2, x2⟩ := Kd.at_int hr 2 (by omega) (by omega)
  obtain ⟨a3, e3, x3⟩ := Kd.at_int hr 3 (by omega) (by omega)
  injection e0 with e0
  injection e1 with e1
  injection e2 with e2
  injection e3 with e3
  subst e0 e1 e2 e3
  rw [hb0] at x0
  rw [hb1] at x1
  rw [hb2] at x2
  rw [h3] at x3
  have X0 : Aside0 (w.cell? ad = some (.int .u8 b0)) := ⟨by rw [show (0 : Int).toNat = 0 from rfl, Addr.add_zero'] at x0; exact x0⟩
  have X1 : Aside0 (w.cell? ⟨ad.block, ad.off + 1, none⟩ = some (.int .u8 b1)) := ⟨x1⟩
  have X2 : Aside0 (w.cell? ⟨ad.block, ad.off + 2, none⟩ = some (.int .u8 b2)) := ⟨x2⟩
  have x3' : (w.alloc (.cells (cReq 0 0 0 0 0) 55)).cell? ⟨ad.block, ad.off + 3, none⟩ = some (.int .u8 0) := pw_cell_below (below_alloc (Below.refl w.heap.size w) (.cells (cReq 0 0 0 0 0) 55)) x3
  dsimp only [cReq] at x3'
  clear hg hr x0 x1 x2 x3 h1 h2 h3 hb0 hb1 hb2
  go_enter Tryd.func61, Tryd.ntmps61
  go_upto_region 3 with fail
  change Code.wp Tryd.prog _ _ _ (w.alloc (.cells (cReq 0 0 0 0 0) 55))
  have HO0 : Aside0 (OB w (w.alloc (.cells (cReq 0 0 0 0 0) 55)).drew) := ⟨(OB.start w).below (pw_below_drewN (Below.refl _ _) 1)⟩
  clear x3'
  refine wp_region_held_drew (S := fun w' => Below w.heap.size w w') (by kernel_rfl) HO0.out.1 (fun hHeld => ?_)
  generalize (w.alloc (.cells (cReq 0 0 0 0 0) 55)).drew = w0 at HO0 hHeld ⊢
  refine tk (i := 0) (v := .slice (some ad) 16 c) 16 rfl (Or.inl ⟨by rfl, fun w _ => by go_simp; try (first | with_reducible rfl | rfl)⟩) hHeld ?_
  try simp only [putL, putN, List.set]
  refine tk (i := 1) (v := .pointer (some ad)) 17 rfl (Or.inl ⟨by rfl, fun w _ => by go_simp; try (first | with_reducible rfl | rfl)⟩) hHeld ?_
  try simp only [putL, putN, List.set]
  refine tk (i := 2) (v := .int .u8 b0) 18 rfl (Or.inl ⟨by rfl, fun w' hS => by have hq := pw_cell_below hS X0.out; go_simp⟩) hHeld ?_
  try simp only [putL, putN, List.set]
  refine tk (i := 3) (v := .slice (some ad) 16 c) 19 rfl (Or.inl ⟨by rfl, fun w _ => by go_simp; try (first | with_reducible rfl | rfl)⟩) hHeld ?_
  try simp only [putL, putN, List.set]
  refine tk (i := 4) (v := .pointer (some ⟨ad.block, ad.off + 1, none⟩)) 20 rfl (Or.inl ⟨by rfl, fun w _ => by go_simp; try (first | with_reducible rfl | rfl)⟩) hHeld ?_
  try simp only [putL, putN, List.set]
  refine tk (i := 5) (v := .int .u8 b1) 21 rfl (Or.inl ⟨by rfl, fun w' hS => by have hq := pw_cell_below hS X1.out; go_simp⟩) hHeld ?_
  try simp only [putL, putN, List.set]
  refine tk (i := 6) (v := .slice (some ad) 16 c) 22 rfl (Or.inl ⟨by rfl, fun w _ => by go_simp; try (first | with_reducible rfl | rfl)⟩) hHeld ?_
  try simp only [putL, putN, List.set]
  refine tk (i := 7) (v := .pointer (some ⟨ad.block, ad.off + 2, none⟩)) 23 rfl (Or.inl ⟨by rfl, fun w _ => by go_simp; try (first | with_reducible rfl | rfl)⟩) hHeld ?_
  try simp only [putL, putN, List.set]
  refine tk (i := 8) (v := .int .u8 b2) 24 rfl (Or.inl ⟨by rfl, fun w' hS => by have hq := pw_cell_below hS X2.out; go_simp⟩) hHeld ?_
  try simp only [putL, putN, List.set]
  refine tk (i := 9) (v := .agg #[.int .i64 4, .int .i64 4]) 25 rfl (yieldsIf_load_mid (by rfl) 130 (.global 0) rfl 0 0 rfl [.int .i64 4, .int .i64 4] _ (fun w' hS => range_below hS HGX.out.1) Tryd.underlying130 rfl (by kernel_rfl)) hHeld ?_
  try simp only [putL, putN, List.set]
  refine tk (i := 10) (v := .slice (some ad) 16 c) 26 rfl (Or.inl ⟨by rfl, fun w _ => by go_simp; try (first | with_reducible rfl | rfl)⟩) hHeld ?_
  try simp only [putL, putN, List.set]
  refine tk (i := 13) (v := .agg #[.int .i64 8, .int .i64 8]) 29 rfl (yieldsIf_load_mid (by rfl) 130 (.global 1) rfl 1 0 rfl [.int .i64 8, .int .i64 8] _ (fun w' hS => range_below hS HGX.out.2) Tryd.underlying130 rfl (by kernel_rfl)) hHeld ?_
  try simp only [putL, putN, List.set]
  refine tk (i := 14) (v := .slice (some ad) 16 c) 30 rfl (Or.inl ⟨by rfl, fun w _ => by go_simp; try (first | with_reducible rfl | rfl)⟩) hHeld ?_
  try simp only [putL, putN, List.set]
  refine wpAnyH_ready (rs := [11, 17]) (by kernel_rfl) (by simp) ?_
  refine AllReadyH.cons rfl (fun K hK => ?_) (AllReadyH.cons rfl (fun K hK => ?_) AllReadyH.nil)
  · skip
    go_simp
    go_wp2_with (first | (go_at_call 87; refine (HG1.out _ hHeld).mono ?_; rintro e1 w1 ⟨rfl, hb⟩; have HO1 := Aside0.mk (HO0.out.below hb); clear hb))
    clear hHeld
    refine hK.out _ _ (below_of_ob HO1.out) (fun hHeld => ?_)
    clear hK K
    try simp only [putL, putN, List.set]
    refine tk (i := 12) (v := .int .u32 (t1 % 4294967296)) 28 rfl (Or.inl ⟨by rfl, fun w _ => by go_simp; try (first | with_reducible rfl | rfl)⟩) hHeld ?_
    try simp only [putL, putN, List.set]
    refine wpAnyH_ready (rs := [15, 17]) (by kernel_rfl) (by simp) ?_
    refine AllReadyH.cons rfl (fun K hK => ?_) (AllReadyH.cons rfl (fun K hK => ?_) AllReadyH.nil)
    · skip
      go_simp
      go_wp2_with (first | (go_at_call 87; refine (HG2.out _ hHeld).mono ?_; rintro e2 w2 ⟨rfl, hb⟩; have HO2 := Aside0.mk (HO1.out.below hb); clear hb))
      clear hHeld
      refine hK.out _ _ (below_of_ob HO2.out) (fun hHeld => ?_)
      clear hK K
      try simp only [putL, putN, List.set]
      refine tk (i := 16) (v := .agg (cReq b0 b1 b2 (t1 % 4294967296) t2)) 32 rfl (Or.inl ⟨by rfl, fun w _ => by go_simp; try (first | with_reducible rfl | rfl)⟩) hHeld ?_
      try simp only [putL, putN, List.set]
      refine wpAnyH_ready (rs := [17]) (by kernel_rfl) (by simp) ?_
      refine AllReadyH.cons rfl (fun K hK => ?_) AllReadyH.nil
      · skip
        go_simp
        obtain ⟨g3, hg3⟩ : ∃ g, w2.heap.size = g := ⟨_, rfl⟩
        have HA3 : Aside0 (w.heap.size < w2.heap.size ∧ (w2.alloc (.cells (cReq 0 0 0 0 0) 55)).heap[w2.heap.size]? = some (.cells (cReq 0 0 0 0 0) 55 (0, 0))) := ⟨(Array.getElem?_eq_some_iff.1 HO2.out.2).1, heap_alloc_new _ _⟩
        have HO3 : Aside0 (OB w (w2.alloc (.cells (cReq 0 0 0 0 0) 55))) := ⟨HO2.out.below (below_alloc (Below.refl _ _) _)⟩
        rw [hg3] at HA3 ⊢
        clear hHeld hg3
        generalize w2.alloc (.cells (cReq 0 0 0 0 0) 55) = wA3 at HA3 HO3 ⊢
        refine hK.out _ _ (below_of_ob HO3.out) (fun hHeld => ?_)
        clear hK K
        try simp only [putL, putN, List.set]
        refine wpAnyH_ready (rs := [18]) (by kernel_rfl) (by simp) ?_
        refine AllReadyH.cons rfl (fun K hK => ?_) AllReadyH.nil
        rw [if_pos (by rfl)]
        refine store_at rfl 55 (.tmp 4) (.tmp 32) rfl g3 0 (cReq b0 b1 b2 (t1 % 4294967296) t2) rfl rfl (there_of_block HA3.out.2 0 5 (by simp)) (by kernel_rfl) (by simp [Value.oneCell']) ?_
        have hbl : (wA3.setCells g3 0 (cReq b0 b1 b2 (t1 % 4294967296) t2).toList).heap[g3]? = some (.cells (cReq b0 b1 b2 (t1 % 4294967296) t2) 55 (0, 0)) := by rw [blk_setCells _ 0 _ _ HA3.out.2, setReq _ _ _ _ _ _ (by simp)]
        have HZ := Aside0.mk (And.intro (HO3.out.other HA3.out.1 (cReq b0 b1 b2 (t1 % 4294967296) t2).toList) hbl)
        clear hbl hHeld
        generalize wA3.setCells g3 0 (cReq b0 b1 b2 (t1 % 4294967296) t2).toList = wz at HZ ⊢
        generalize g3 = gz at HZ ⊢
        refine hK.out _ _ (below_of_ob HZ.out.1) (fun hHeld => ?_)
        clear hK K hHeld
        try simp only [putL, putN, List.set]
        refine wpAnyH_done (by kernel_rfl) ?_ _
        go_wp2_with (first | ((with_reducible refine gate_ (.load 55 (.tmp 4)) rfl ?_); refine load_blk rfl 55 (.tmp 4) rfl gz _ 55 rfl _ HZ.out.2 Tryd.underlying55 rfl (by kernel_rfl) ?_) | ((with_reducible refine gate_ (.load 55 (.tmp 4)) rfl ?_); refine load_blk rfl 55 (.tmp 4) rfl gz _ 55 rfl _ HC.out.2 Tryd.underlying55 rfl (by kernel_rfl) ?_) | (go_at_call 88; refine (wire_Check.calls k b0 b1 b2 (t1 % 4294967296) t2 0 _ HCK.out).mono ?_; rintro e9 w9 ⟨rfl, hb⟩; have HC := Aside0.mk (And.intro (HZ.out.1.below hb) (obj_below hb HZ.out.2)); clear hb) | ((with_reducible refine gate_store (p := 2) (t := 55) rfl ?_); refine store_blk rfl 55 (.tmp 2) (.tmp 39) rfl w.heap.size 0 (cReq b0 b1 b2 (t1 % 4294967296) t2) _ 55 rfl rfl HC.out.1.2 (by simp) (by kernel_rfl) (by simp [Value.oneCell']) ?_; intro wy ey hwy; have HY := Aside0.mk (HC.out.1.stored b0 b1 b2 (t1 % 4294967296) t2); rw [← show wy = _ from ey] at HY; clear ey hwy))
        obtain ⟨hb, c1⟩ := HY.out
        obtain ⟨z0, z1, z2, z3, z4⟩ := req_cells c1
        (try simp only [Exit.inBlock, Exit.then])
        refine bodyPost_ret (by simp [results, Tryd.results61, go_sem, z0, z1, z2, z3, z4]; try rfl) rfl ?_
        exact ⟨by first | rfl | simp, hb⟩
    · skip
      go_simp
      obtain ⟨g4, hg4⟩ : ∃ g, w1.heap.size = g := ⟨_, rfl⟩
      have HA4 : Aside0 (w.heap.size < w1.heap.size ∧ (w1.alloc (.cells (cReq 0 0 0 0 0) 55)).heap[w1.heap.size]? = some (.cells (cReq 0 0 0 0 0) 55 (0, 0))) := ⟨(Array.getElem?_eq_some_iff.1 HO1.out.2).1, heap_alloc_new _ _⟩
      have HO4 : Aside0 (OB w (w1.alloc (.cells (cReq 0 0 0 0 0) 55))) := ⟨HO1.out.below (below_alloc (Below.refl _ _) _)⟩
      rw [hg4] at HA4 ⊢
      clear hHeld hg4
      generalize w1.alloc (.cells (cReq 0 0 0 0 0) 55) = wA4 at HA4 HO4 ⊢
      refine hK.out _ _ (below_of_ob HO4.out) (fun hHeld => ?_)
      clear hK K
      try simp only [putL, putN, List.set]
      refine wpAnyH_ready (rs := [15]) (by kernel_rfl) (by simp) ?_
      refine AllReadyH.cons rfl (fun K hK => ?_) AllReadyH.nil
      · skip
        go_simp
        go_wp2_with (first | (go_at_call 87; refine (HG2.out _ hHeld).mono ?_; rintro e5 w5 ⟨rfl, hb⟩; have HO5 := Aside0.mk (HO4.out.below hb); have HB5 : Aside0 (w.heap.size < g4 ∧ w5.heap[g4]? = some (.cells (cReq 0 0 0 0 0) 55 (0, 0))) := ⟨HA4.out.1, obj_below hb HA4.out.2⟩; clear hb))
        clear hHeld
        refine hK.out _ _ (below_of_ob HO5.out) (fun hHeld => ?_)
        clear hK K
        try simp only [putL, putN, List.set]
        refine tk (i := 16) (v := .agg (cReq b0 b1 b2 (t1 % 4294967296) t2)) 32 rfl (Or.inl ⟨by rfl, fun w _ => by go_simp; try (first | with_reducible rfl | rfl)⟩) hHeld ?_
        try simp only [putL, putN, List.set]
        refine wpAnyH_ready (rs := [18]) (by kernel_rfl) (by simp) ?_
        refine AllReadyH.cons rfl (fun K hK => ?_) AllReadyH.nil
        rw [if_pos (by rfl)]
        refine store_at rfl 55 (.tmp 4) (.tmp 32) rfl g4 0 (cReq b0 b1 b2 (t1 % 4294967296) t2) rfl rfl (there_of_block HB5.out.2 0 5 (by simp)) (by kernel_rfl) (by simp [Value.oneCell']) ?_
        have hbl : (w5.setCells g4 0 (cReq b0 b1 b2 (t1 % 4294967296) t2).toList).heap[g4]? = some (.cells (cReq b0 b1 b2 (t1 % 4294967296) t2) 55 (0, 0)) := by rw [blk_setCells _ 0 _ _ HB5.out.2, setReq _ _ _ _ _ _ (by simp)]
        have HZ := Aside0.mk (And.intro (HO5.out.other HB5.out.1 (cReq b0 b1 b2 (t1 % 4294967296) t2).toList) hbl)
        clear hbl hHeld
        generalize w5.setCells g4 0 (cReq b0 b1 b2 (t1 % 4294967296) t2).toList = wz at HZ ⊢
        generalize g4 = gz at HZ ⊢
        refine hK.out _ _ (below_of_ob HZ.out.1) (fun hHeld => ?_)
        clear hK K hHeld
        try simp only [putL, putN, List.set]
        refine wpAnyH_done (by kernel_rfl) ?_ _
        go_wp2_with (first | ((with_reducible refine gate_ (.load 55 (.tmp 4)) rfl ?_); refine load_blk rfl 55 (.tmp 4) rfl gz _ 55 rfl _ HZ.out.2 Tryd.underlying55 rfl (by kernel_rfl) ?_) | ((with_reducible refine gate_ (.load 55 (.tmp 4)) rfl ?_); refine load_blk rfl 55 (.tmp 4) rfl gz _ 55 rfl _ HC.out.2 Tryd.underlying55 rfl (by kernel_rfl) ?_) | (go_at_call 88; refine (wire_Check.calls k b0 b1 b2 (t1 % 4294967296) t2 0 _ HCK.out).mono ?_; rintro e9 w9 ⟨rfl, hb⟩; have HC := Aside0.mk (And.intro (HZ.out.1.below hb) (obj_below hb HZ.out.2)); clear hb) | ((with_reducible refine gate_store (p := 2) (t := 55) rfl ?_); refine store_blk rfl 55 (.tmp 2) (.tmp 39) rfl w.heap.size 0 (cReq b0 b1 b2 (t1 % 4294967296) t2) _ 55 rfl rfl HC.out.1.2 (by simp) (by kernel_rfl) (by simp [Value.oneCell']) ?_; intro wy ey hwy; have HY := Aside0.mk (HC.out.1.stored b0 b1 b2 (t1 % 4294967296) t2); rw [← show wy = _ from ey] at HY; clear ey hwy))
        obtain ⟨hb, c1⟩ := HY.out
        obtain ⟨z0, z1, z2, z3, z4⟩ := req_cells c1
        (try simp only [Exit.inBlock, Exit.then])
        refine bodyPost_ret (by simp [results, Tryd.results61, go_sem, z0, z1, z2, z3, z4]; try rfl) rfl ?_
        exact ⟨by first | rfl | simp, hb⟩
  · skip
    go_simp
    obtain ⟨g6, hg6⟩ : ∃ g, w0.heap.size = g := ⟨_, rfl⟩
    have HA6 : Aside0 (w.heap.size < w0.heap.size ∧ (w0.alloc (.cells (cReq 0 0 0 0 0) 55)).heap[w0.heap.size]? = some (.cells (cReq 0 0 0 0 0) 55 (0, 0))) := ⟨(Array.getElem?_eq_some_iff.1 HO0.out.2).1, heap_alloc_new _ _⟩
    have HO6 : Aside0 (OB w (w0.alloc (.cells (cReq 0 0 0 0 0) 55))) := ⟨HO0.out.below (below_alloc (Below.refl _ _) _)⟩
    rw [hg6] at HA6 ⊢
    clear hHeld hg6
    generalize w0.alloc (.cells (cReq 0 0 0 0 0) 55) = wA6 at HA6 HO6 ⊢
    refine hK.out _ _ (below_of_ob HO6.out) (fun hHeld => ?_)
    clear hK K
    try simp only [putL, putN, List.set]
    refine wpAnyH_ready (rs := [11]) (by kernel_rfl) (by simp) ?_
    refine AllReadyH.cons rfl (fun K hK => ?_) AllReadyH.nil
    · skip
      go_simp
      go_wp2_with (first | (go_at_call 87; refine (HG1.out _ hHeld).mono ?_; rintro e7 w7 ⟨rfl, hb⟩; have HO7 := Aside0.mk (HO6.out.below hb); have HB7 : Aside0 (w.heap.size < g6 ∧ w7.heap[g6]? = some (.cells (cReq 0 0 0 0 0) 55 (0, 0))) := ⟨HA6.out.1, obj_below hb HA6.out.2⟩; clear hb))
      clear hHeld
      refine hK.out _ _ (below_of_ob HO7.out) (fun hHeld => ?_)
      clear hK K
      try simp only [putL, putN, List.set]
      refine tk (i := 12) (v := .int .u32 (t1 % 4294967296)) 28 rfl (Or.inl ⟨by rfl, fun w _ => by go_simp; try (first | with_reducible rfl | rfl)⟩) hHeld ?_
      try simp only [putL, putN, List.set]
      refine wpAnyH_ready (rs := [15]) (by kernel_rfl) (by simp) ?_
      refine AllReadyH.cons rfl (fun K hK => ?_) AllReadyH.nil
      · skip
        go_simp
        go_wp2_with (first | (go_at_call 87; refine (HG2.out _ hHeld).mono ?_; rintro e8 w8 ⟨rfl, hb⟩; have HO8 := Aside0.mk (HO7.out.below hb); have HB8 : Aside0 (w.heap.size < g6 ∧ w8.heap[g6]? = some (.cells (cReq 0 0 0 0 0) 55 (0, 0))) := ⟨HB7.out.1, obj_below hb HB7.out.2⟩; clear hb))
        clear hHeld
        refine hK.out _ _ (below_of_ob HO8.out) (fun hHeld => ?_)
        clear hK K
        try simp only [putL, putN, List.set]
        refine tk (i := 16) (v := .agg (cReq b0 b1 b2 (t1 % 4294967296) t2)) 32 rfl (Or.inl ⟨by rfl, fun w _ => by go_simp; try (first | with_reducible rfl | rfl)⟩) hHeld ?_
        try simp only [putL, putN, List.set]
        refine wpAnyH_ready (rs := [18]) (by kernel_rfl) (by simp) ?_
        refine AllReadyH.cons rfl (fun K hK => ?_) AllReadyH.nil
        rw [if_pos (by rfl)]
        refine store_at rfl 55 (.tmp 4) (.tmp 32) rfl g6 0 (cReq b0 b1 b2 (t1 % 4294967296) t2) rfl rfl (there_of_block HB8.out.2 0 5 (by simp)) (by kernel_rfl) (by simp [Value.oneCell']) ?_
        have hbl : (w8.setCells g6 0 (cReq b0 b1 b2 (t1 % 4294967296) t2).toList).heap[g6]? = some (.cells (cReq b0 b1 b2 (t1 % 4294967296) t2) 55 (0, 0)) := by rw [blk_setCells _ 0 _ _ HB8.out.2, setReq _ _ _ _ _ _ (by simp)]
        have HZ := Aside0.mk (And.intro (HO8.out.other HB8.out.1 (cReq b0 b1 b2 (t1 % 4294967296) t2).toList) hbl)
        clear hbl hHeld
        generalize w8.setCells g6 0 (cReq b0 b1 b2 (t1 % 4294967296) t2).toList = wz at HZ ⊢
        generalize g6 = gz at HZ ⊢
        refine hK.out _ _ (below_of_ob HZ.out.1) (fun hHeld => ?_)
        clear hK K hHeld
        try simp only [putL, putN, List.set]
        refine wpAnyH_done (by kernel_rfl) ?_ _
        go_wp2_with (first | ((with_reducible refine gate_ (.load 55 (.tmp 4)) rfl ?_); refine load_blk rfl 55 (.tmp 4) rfl gz _ 55 rfl _ HZ.out.2 Tryd.underlying55 rfl (by kernel_rfl) ?_) | ((with_reducible refine gate_ (.load 55 (.tmp 4)) rfl ?_); refine load_blk rfl 55 (.tmp 4) rfl gz _ 55 rfl _ HC.out.2 Tryd.underlying55 rfl (by kernel_rfl) ?_) | (go_at_call 88; refine (wire_Check.calls k b0 b1 b2 (t1 % 4294967296) t2 0 _ HCK.out).mono ?_; rintro e9 w9 ⟨rfl, hb⟩; have HC := Aside0.mk (And.intro (HZ.out.1.below hb) (obj_below hb HZ.out.2)); clear hb) | ((with_reducible refine gate_store (p := 2) (t := 55) rfl ?_); refine store_blk rfl 55 (.tmp 2) (.tmp 39) rfl w.heap.size 0 (cReq b0 b1 b2 (t1 % 4294967296) t2) _ 55 rfl rfl HC.out.1.2 (by simp) (by kernel_rfl) (by simp [Value.oneCell']) ?_; intro wy ey hwy; have HY := Aside0.mk (HC.out.1.stored b0 b1 b2 (t1 % 4294967296) t2); rw [← show wy = _ from ey] at HY; clear ey hwy))
        obtain ⟨hb, c1⟩ := HY.out
        obtain ⟨z0, z1, z2, z3, z4⟩ := req_cells c1
        (try simp only [Exit.inBlock, Exit.then])
        refine bodyPost_ret (by simp [results, Tryd.results61, go_sem, z0, z1, z2, z3, z4]; try rfl) rfl ?_
        exact ⟨by first | rfl | simp, hb⟩

set_option maxRecDepth 100000 in
set_option maxHeartbeats 4000000 in
theorem Parse_bad (k : Nat) (ad : Addr) (c : Nat) (l : List Int) (w : World) (hc : 16 ≤ c) (h16 : l.length = 16) (hr : Kd.C (Kd.int .u8) w (some ad) 16 l) (hg : Glob w) (b0 b1 b2 : Int) (hb0 : rd l 0 = b0) (hb1 : rd l 1 = b1) (hb2 : rd l 2 = b2) (h3 : rd l 3 = 0) (t1 t2 : Int) (h1 : wire_part_get.f k 4 4 l = some t1) (h2 : wire_part_get.f k 8 8 l = some t2) (e : Int) (hk : wire_Check.f k b0 b1 b2 (t1 % 4294967296) t2 = some e) (hne : e ≠ 0) :
    Calls Tryd.prog 61 #[.slice (some ad) 16 c] w fun e' w' => e' = .returned (.tuple #[.agg (cReq 0 0 0 0 0), .int .i64 e]) ∧ Below w.heap.size w w' := by
  have HCK := Aside0.mk hk
  have hd : (e != 0) = true := bne_iff_ne.mpr hne
  have hd2 : (e == 0) = false := beq_false_of_ne hne
  clear hk hne
  have HGX := Aside0.mk hg
  have HR := Aside0.mk hr
  have HG1 : Aside0 (∀ w', Below w.heap.size w w' → Calls Tryd.prog 87 #[.agg #[.int .i64 4, .int .i64 4], .slice (some ad) 16 c] w' fun e w'' => e = .returned (.int .u64 t1) ∧ Below w'.heap.size w' w'') := ⟨fun w' hb => by
    have := wire_part_get.calls k 4 4 (some ad) c l t1 w' (by rw [h16]; exact Kd.C_below hr hb) (by omega) h1
    rw [h16] at this
    exact this⟩
  have HG2 : Aside0 (∀ w', Below w.heap.size w w' → Calls Tryd.prog 87 #[.agg #[.int .i64 8, .int .i64 8], .slice (some ad) 16 c] w' fun e w'' => e = .returned (.int .u64 t2) ∧ Below w'.heap.size w' w'') := ⟨fun w' hb => by
    have := wire_part_get.calls k 8 8 (some ad) c l t2 w' (by rw [h16]; exact Kd.C_below hr hb) (by omega) h2
    rw [h16] at this
    exact this⟩
  obtain ⟨a0, e0, x0⟩ := Kd.at_int hr 0 (by omega) (by omega)
  obtain ⟨a1, e1, x1⟩ := Kd.at_int hr 1 (by omega) (by omega)
  obtain ⟨a2, e2, x2⟩ := Kd.at_int hr 2 (by omega) (by omega)
  obtain ⟨a3, e3, x3⟩ := Kd.at_int hr 3 (by omega) (by omega)
  injection e0 with e0
  injection e1 with e1
  injection e2 with e2
  injection e3 with e3
  subst e0 e1 e2 e3
  rw [hb0] at x0
  rw [hb1] at x1
  rw [hb2] at x2
  rw [h3] at x3
  have X0 : Aside0 (w.cell? ad = some (.int .u8 b0)) := ⟨by rw [show (0 : Int).toNat = 0 from rfl, Addr.add_zero'] at x0; exact x0⟩
  have X1 : Aside0 (w.cell? ⟨ad.block, ad.off + 1, none⟩ = some (.int .u8 b1)) := ⟨x1⟩
  have X2 : Aside0 (w.cell? ⟨ad.block, ad.off + 2, none⟩ = some (.int .u8 b2)) := ⟨x2⟩
  have x3' : (w.alloc (.cells (cReq 0 0 0 0 0) 55)).cell? ⟨ad.block, ad.off + 3, none⟩ = some (.int .u8 0) := pw_cell_below (below_alloc (Below.refl w.heap.size w) (.cells (cReq 0 0 0 0 0) 55)) x3
  dsimp only [cReq] at x3'
  clear hg hr x0 x1 x2 x3 h1 h2 h3 hb0 hb1 hb2
  go_enter Tryd.func61, Tryd.ntmps61
  go_upto_region 3 with fail
  change Code.wp Tryd.prog _ _ _ (w.alloc (.cells (cReq 0 0 0 0 0) 55))
  have HO0 : Aside0 (OB w (w.alloc (.cells (cReq 0 0 0 0 0) 55)).drew) := ⟨(OB.start w).below (pw_below_drewN (Below.refl _ _) 1)⟩
  clear x3'
  refine wp_region_held_drew (S := fun w' => Below w.heap.size w w') (by kernel_rfl) HO0.out.1 (fun hHeld => ?_)
  generalize (w.alloc (.cells (cReq 0 0 0 0 0) 55)).drew = w0 at HO0 hHeld ⊢
  refine tk (i := 0) (v := .slice (some ad) 16 c) 16 rfl (Or.inl ⟨by rfl, fun w _ => by go_simp; try (first | with_reducible rfl | rfl)⟩) hHeld ?_
  try simp only [putL, putN, List.set]
  refine tk (i := 1) (v := .pointer (some ad)) 17 rfl (Or.inl ⟨by rfl, fun w _ => by go_simp; try (first | with_reducible rfl | rfl)⟩) hHeld ?_
  try simp only [putL, putN, List.set]
  refine tk (i := 2) (v := .int .u8 b0) 18 rfl (Or.inl ⟨by rfl, fun w' hS => by have hq := pw_cell_below hS X0.out; go_simp⟩) hHeld ?_
  try simp only [putL, putN, List.set]
  refine tk (i := 3) (v := .slice (some ad) 16 c) 19 rfl (Or.inl ⟨by rfl, fun w _ => by go_simp; try (first | with_reducible rfl | rfl)⟩) hHeld ?_
  try simp only [putL, putN, List.set]
  refine tk (i := 4) (v := .pointer (some ⟨ad.block, ad.off + 1, none⟩)) 20 rfl (Or.inl ⟨by rfl, fun w _ => by go_simp; try (first | with_reducible rfl | rfl)⟩) hHeld ?_
  try simp only [putL, putN, List.set]
  refine tk (i := 5) (v := .int .u8 b1) 21 rfl (Or.inl ⟨by rfl, fun w' hS => by have hq := pw_cell_below hS X1.out; go_simp⟩) hHeld ?_
  try simp only [putL, putN, List.set]
  refine tk (i := 6) (v := .slice (some ad) 16 c) 22 rfl (Or.inl ⟨by rfl, fun w _ => by go_simp; try (first | with_reducible rfl | rfl)⟩) hHeld ?_
  try simp only [putL, putN, List.set]
  refine tk (i := 7) (v := .pointer (some ⟨ad.block, ad.off + 2, none⟩)) 23 rfl (Or.inl ⟨by rfl, fun w _ => by go_simp; try (first | with_reducible rfl | rfl)⟩) hHeld ?_
  try simp only [putL, putN, List.set]
  refine tk (i := 8) (v := .int .u8 b2) 24 rfl (Or.inl ⟨by rfl, fun w' hS => by have hq := pw_cell_below hS X2.out; go_simp⟩) hHeld ?_
  try simp only [putL, putN, List.set]
  refine tk (i := 9) (v := .agg #[.int .i64 4, .int .i64 4]) 25 rfl (yieldsIf_load_mid (by rfl) 130 (.global 0) rfl 0 0 rfl [.int .i64 4, .int .i64 4] _ (fun w' hS => range_below hS HGX.out.1) Tryd.underlying130 rfl (by kernel_rfl)) hHeld ?_
  try simp only [putL, putN, List.set]
  refine tk (i := 10) (v := .slice (some ad) 16 c) 26 rfl (Or.inl ⟨by rfl, fun w _ => by go_simp; try (first | with_reducible rfl | rfl)⟩) hHeld ?_
  try simp only [putL, putN, List.set]
  refine tk (i := 13) (v := .agg #[.int .i64 8, .int .i64 8]) 29 rfl (yieldsIf_load_mid (by rfl) 130 (.global 1) rfl 1 0 rfl [.int .i64 8, .int .i64 8] _ (fun w' hS => range_below hS HGX.out.2) Tryd.underlying130 rfl (by kernel_rfl)) hHeld ?_
  try simp only [putL, putN, List.set]
  refine tk (i := 14) (v := .slice (some ad) 16 c) 30 rfl (Or.inl ⟨by rfl, fun w _ => by go_simp; try (first | with_reducible rfl | rfl)⟩) hHeld ?_
  try simp only [putL, putN, List.set]
  refine wpAnyH_ready (rs := [11, 17]) (by kernel_rfl) (by simp) ?_
  refine AllReadyH.cons rfl (fun K hK => ?_) (AllReadyH.cons rfl (fun K hK => ?_) AllReadyH.nil)
  · skip
    go_simp
    go_wp2_with (first | (go_at_call 87; refine (HG1.out _ hHeld).mono ?_; rintro e9 w9 ⟨rfl, hb⟩; have HO9 := Aside0.mk (HO0.out.below hb); clear hb))
    clear hHeld
    refine hK.out _ _ (below_of_ob HO9.out) (fun hHeld => ?_)
    clear hK K
    try simp only [putL, putN, List.set]
    refine tk (i := 12) (v := .int .u32 (t1 % 4294967296)) 28 rfl (Or.inl ⟨by rfl, fun w _ => by go_simp; try (first | with_reducible rfl | rfl)⟩) hHeld ?_
    try simp only [putL, putN, List.set]
    refine wpAnyH_ready (rs := [15, 17]) (by kernel_rfl) (by simp) ?_
    refine AllReadyH.cons rfl (fun K hK => ?_) (AllReadyH.cons rfl (fun K hK => ?_) AllReadyH.nil)
    · skip
      go_simp
      go_wp2_with (first | (go_at_call 87; refine (HG2.out _ hHeld).mono ?_; rintro e10 w10 ⟨rfl, hb⟩; have HO10 := Aside0.mk (HO9.out.below hb); clear hb))
      clear hHeld
      refine hK.out _ _ (below_of_ob HO10.out) (fun hHeld => ?_)
      clear hK K
      try simp only [putL, putN, List.set]
      refine tk (i := 16) (v := .agg (cReq b0 b1 b2 (t1 % 4294967296) t2)) 32 rfl (Or.inl ⟨by rfl, fun w _ => by go_simp; try (first | with_reducible rfl | rfl)⟩) hHeld ?_
      try simp only [putL, putN, List.set]
      refine wpAnyH_ready (rs := [17]) (by kernel_rfl) (by simp) ?_
      refine AllReadyH.cons rfl (fun K hK => ?_) AllReadyH.nil
      · skip
        go_simp
        obtain ⟨g11, hg11⟩ : ∃ g, w10.heap.size = g := ⟨_, rfl⟩
        have HA11 : Aside0 (w.heap.size < w10.heap.size ∧ (w10.alloc (.cells (cReq 0 0 0 0 0) 55)).heap[w10.heap.size]? = some (.cells (cReq 0 0 0 0 0) 55 (0, 0))) := ⟨(Array.getElem?_eq_some_iff.1 HO10.out.2).1, heap_alloc_new _ _⟩
        have HO11 : Aside0 (OB w (w10.alloc (.cells (cReq 0 0 0 0 0) 55))) := ⟨HO10.out.below (below_alloc (Below.refl _ _) _)⟩
        rw [hg11] at HA11 ⊢
        clear hHeld hg11
        generalize w10.alloc (.cells (cReq 0 0 0 0 0) 55) = wA11 at HA11 HO11 ⊢
        refine hK.out _ _ (below_of_ob HO11.out) (fun hHeld => ?_)
        clear hK K
        try simp only [putL, putN, List.set]
        refine wpAnyH_ready (rs := [18]) (by kernel_rfl) (by simp) ?_
        refine AllReadyH.cons rfl (fun K hK => ?_) AllReadyH.nil
        rw [if_pos (by rfl)]
        refine store_at rfl 55 (.tmp 4) (.tmp 32) rfl g11 0 (cReq b0 b1 b2 (t1 % 4294967296) t2) rfl rfl (there_of_block HA11.out.2 0 5 (by simp)) (by kernel_rfl) (by simp [Value.oneCell']) ?_
        have hbl : (wA11.setCells g11 0 (cReq b0 b1 b2 (t1 % 4294967296) t2).toList).heap[g11]? = some (.cells (cReq b0 b1 b2 (t1 % 4294967296) t2) 55 (0, 0)) := by rw [blk_setCells _ 0 _ _ HA11.out.2, setReq _ _ _ _ _ _ (by simp)]
        have HZ := Aside0.mk (And.intro (HO11.out.other HA11.out.1 (cReq b0 b1 b2 (t1 % 4294967296) t2).toList) hbl)
        clear hbl hHeld
        generalize wA11.setCells g11 0 (cReq b0 b1 b2 (t1 % 4294967296) t2).toList = wz at HZ ⊢
        generalize g11 = gz at HZ ⊢
        refine hK.out _ _ (below_of_ob HZ.out.1) (fun hHeld => ?_)
        clear hK K hHeld
        try simp only [putL, putN, List.set]
        refine wpAnyH_done (by kernel_rfl) ?_ _
        go_wp2_with (first | ((with_reducible refine gate_ (.load 55 (.tmp 4)) rfl ?_); refine load_blk rfl 55 (.tmp 4) rfl gz _ 55 rfl _ HZ.out.2 Tryd.underlying55 rfl (by kernel_rfl) ?_) | ((with_reducible refine gate_ (.load 55 (.tmp 4)) rfl ?_); refine load_blk rfl 55 (.tmp 4) rfl gz _ 55 rfl _ HC.out.2 Tryd.underlying55 rfl (by kernel_rfl) ?_) | (go_at_call 88; refine (wire_Check.calls k b0 b1 b2 (t1 % 4294967296) t2 e _ HCK.out).mono ?_; rintro e9 w9 ⟨rfl, hb⟩; have HC := Aside0.mk (And.intro (HZ.out.1.below hb) (obj_below hb HZ.out.2)); clear hb) | ((with_reducible refine gate_store (p := 2) (t := 55) rfl ?_); refine store_blk rfl 55 (.tmp 2) (.tmp 37) rfl w.heap.size 0 (cReq 0 0 0 0 0) _ 55 rfl rfl HC.out.1.2 (by simp) (by kernel_rfl) (by simp [Value.oneCell']) ?_; intro wy ey hwy; have HY := Aside0.mk (HC.out.1.stored 0 0 0 0 0); rw [← show wy = _ from ey] at HY; clear ey hwy))
        obtain ⟨hb, c1⟩ := HY.out
        obtain ⟨z0, z1, z2, z3, z4⟩ := req_cells c1
        (try simp only [Exit.inBlock, Exit.then])
        refine bodyPost_ret (by simp [results, Tryd.results61, go_sem, z0, z1, z2, z3, z4]; try rfl) rfl ?_
        exact ⟨by first | rfl | simp, hb⟩
    · skip
      go_simp
      obtain ⟨g12, hg12⟩ : ∃ g, w9.heap.size = g := ⟨_, rfl⟩
      have HA12 : Aside0 (w.heap.size < w9.heap.size ∧ (w9.alloc (.cells (cReq 0 0 0 0 0) 55)).heap[w9.heap.size]? = some (.cells (cReq 0 0 0 0 0) 55 (0, 0))) := ⟨(Array.getElem?_eq_some_iff.1 HO9.out.2).1, heap_alloc_new _ _⟩
      have HO12 : Aside0 (OB w (w9.alloc (.cells (cReq 0 0 0 0 0) 55))) := ⟨HO9.out.below (below_alloc (Below.refl _ _) _)⟩
      rw [hg12] at HA12 ⊢
      clear hHeld hg12
      generalize w9.alloc (.cells (cReq 0 0 0 0 0) 55) = wA12 at HA12 HO12 ⊢
      refine hK.out _ _ (below_of_ob HO12.out) (fun hHeld => ?_)
      clear hK K
      try simp only [putL, putN, List.set]
      refine wpAnyH_ready (rs := [15]) (by kernel_rfl) (by simp) ?_
      refine AllReadyH.cons rfl (fun K hK => ?_) AllReadyH.nil
      · skip
        go_simp
        go_wp2_with (first | (go_at_call 87; refine (HG2.out _ hHeld).mono ?_; rintro e13 w13 ⟨rfl, hb⟩; have HO13 := Aside0.mk (HO12.out.below hb); have HB13 : Aside0 (w.heap.size < g12 ∧ w13.heap[g12]? = some (.cells (cReq 0 0 0 0 0) 55 (0, 0))) := ⟨HA12.out.1, obj_below hb HA12.out.2⟩; clear hb))
        clear hHeld
        refine hK.out _ _ (below_of_ob HO13.out) (fun hHeld => ?_)
        clear hK K
        try simp only [putL, putN, List.set]
        refine tk (i := 16) (v := .agg (cReq b0 b1 b2 (t1 % 4294967296) t2)) 32 rfl (Or.inl ⟨by rfl, fun w _ => by go_simp; try (first | with_reducible rfl | rfl)⟩) hHeld ?_
        try simp only [putL, putN, List.set]
        refine wpAnyH_ready (rs := [18]) (by kernel_rfl) (by simp) ?_
        refine AllReadyH.cons rfl (fun K hK => ?_) AllReadyH.nil
        rw [if_pos (by rfl)]
        refine store_at rfl 55 (.tmp 4) (.tmp 32) rfl g12 0 (cReq b0 b1 b2 (t1 % 4294967296) t2) rfl rfl (there_of_block HB13.out.2 0 5 (by simp)) (by kernel_rfl) (by simp [Value.oneCell']) ?_
        have hbl : (w13.setCells g12 0 (cReq b0 b1 b2 (t1 % 4294967296) t2).toList).heap[g12]? = some (.cells (cReq b0 b1 b2 (t1 % 4294967296) t2) 55 (0, 0)) := by rw [blk_setCells _ 0 _ _ HB13.out.2, setReq _ _ _ _ _ _ (by simp)]
        have HZ := Aside0.mk (And.intro (HO13.out.other HB13.out.1 (cReq b0 b1 b2 (t1 % 4294967296) t2).toList) hbl)
        clear hbl hHeld
        generalize w13.setCells g12 0 (cReq b0 b1 b2 (t1 % 4294967296) t2).toList = wz at HZ ⊢
        generalize g12 = gz at HZ ⊢
        refine hK.out _ _ (below_of_ob HZ.out.1) (fun hHeld => ?_)
        clear hK K hHeld
        try simp only [putL, putN, List.set]
        refine wpAnyH_done (by kernel_rfl) ?_ _
        go_wp2_with (first | ((with_reducible refine gate_ (.load 55 (.tmp 4)) rfl ?_); refine load_blk rfl 55 (.tmp 4) rfl gz _ 55 rfl _ HZ.out.2 Tryd.underlying55 rfl (by kernel_rfl) ?_) | ((with_reducible refine gate_ (.load 55 (.tmp 4)) rfl ?_); refine load_blk rfl 55 (.tmp 4) rfl gz _ 55 rfl _ HC.out.2 Tryd.underlying55 rfl (by kernel_rfl) ?_) | (go_at_call 88; refine (wire_Check.calls k b0 b1 b2 (t1 % 4294967296) t2 e _ HCK.out).mono ?_; rintro e9 w9 ⟨rfl, hb⟩; have HC := Aside0.mk (And.intro (HZ.out.1.below hb) (obj_below hb HZ.out.2)); clear hb) | ((with_reducible refine gate_store (p := 2) (t := 55) rfl ?_); refine store_blk rfl 55 (.tmp 2) (.tmp 37) rfl w.heap.size 0 (cReq 0 0 0 0 0) _ 55 rfl rfl HC.out.1.2 (by simp) (by kernel_rfl) (by simp [Value.oneCell']) ?_; intro wy ey hwy; have HY := Aside0.mk (HC.out.1.stored 0 0 0 0 0); rw [← show wy = _ from ey] at HY; clear ey hwy))
        obtain ⟨hb, c1⟩ := HY.out
        obtain ⟨z0, z1, z2, z3, z4⟩ := req_cells c1
        (try simp only [Exit.inBlock, Exit.then])
        refine bodyPost_ret (by simp [results, Tryd.results61, go_sem, z0, z1, z2, z3, z4]; try rfl) rfl ?_
        exact ⟨by first | rfl | simp, hb⟩
  · skip
    go_simp
    obtain ⟨g14, hg14⟩ : ∃ g, w0.heap.size = g := ⟨_, rfl⟩
    have HA14 : Aside0 (w.heap.size < w0.heap.size ∧ (w0.alloc (.cells (cReq 0 0 0 0 0) 55)).heap[w0.heap.size]? = some (.cells (cReq 0 0 0 0 0) 55 (0, 0))) := ⟨(Array.getElem?_eq_some_iff.1 HO0.out.2).1, heap_alloc_new _ _⟩
    have HO14 : Aside0 (OB w (w0.alloc (.cells (cReq 0 0 0 0 0) 55))) := ⟨HO0.out.below (below_alloc (Below.refl _ _) _)⟩
    rw [hg14] at HA14 ⊢
    clear hHeld hg14
    generalize w0.alloc (.cells (cReq 0 0 0 0 0) 55) = wA14 at HA14 HO14 ⊢
    refine hK.out _ _ (below_of_ob HO14.out) (fun hHeld => ?_)
    clear hK K
    try simp only [putL, putN, List.set]
    refine wpAnyH_ready (rs := [11]) (by kernel_rfl) (by simp) ?_
    refine AllReadyH.cons rfl (fun K hK => ?_) AllReadyH.nil
    · skip
      go_simp
      go_wp2_with (first | (go_at_call 87; refine (HG1.out _ hHeld).mono ?_; rintro e15 w15 ⟨rfl, hb⟩; have HO15 := Aside0.mk (HO14.out.below hb); have HB15 : Aside0 (w.heap.size < g14 ∧ w15.heap[g14]? = some (.cells (cReq 0 0 0 0 0) 55 (0, 0))) := ⟨HA14.out.1, obj_below hb HA14.out.2⟩; clear hb))
      clear hHeld
      refine hK.out _ _ (below_of_ob HO15.out) (fun hHeld => ?_)
      clear hK K
      try simp only [putL, putN, List.set]
      refine tk (i := 12) (v := .int .u32 (t1 % 4294967296)) 28 rfl (Or.inl ⟨by rfl, fun w _ => by go_simp; try (first | with_reducible rfl | rfl)⟩) hHeld ?_
      try simp only [putL, putN, List.set]
      refine wpAnyH_ready (rs := [15]) (by kernel_rfl) (by simp) ?_
      refine AllReadyH.cons rfl (fun K hK => ?_) AllReadyH.nil
      · skip
        go_simp
        go_wp2_with (first | (go_at_call 87; refine (HG2.out _ hHeld).mono ?_; rintro e16 w16 ⟨rfl, hb⟩; have HO16 := Aside0.mk (HO15.out.below hb); have HB16 : Aside0 (w.heap.size < g14 ∧ w16.heap[g14]? = some (.cells (cReq 0 0 0 0 0) 55 (0, 0))) := ⟨HB15.out.1, obj_below hb HB15.out.2⟩; clear hb))
        clear hHeld
        refine hK.out _ _ (below_of_ob HO16.out) (fun hHeld => ?_)
        clear hK K
        try simp only [putL, putN, List.set]
        refine tk (i := 16) (v := .agg (cReq b0 b1 b2 (t1 % 4294967296) t2)) 32 rfl (Or.inl ⟨by rfl, fun w _ => by go_simp; try (first | with_reducible rfl | rfl)⟩) hHeld ?_
        try simp only [putL, putN, List.set]
        refine wpAnyH_ready (rs := [18]) (by kernel_rfl) (by simp) ?_
        refine AllReadyH.cons rfl (fun K hK => ?_) AllReadyH.nil
        rw [if_pos (by rfl)]
        refine store_at rfl 55 (.tmp 4) (.tmp 32) rfl g14 0 (cReq b0 b1 b2 (t1 % 4294967296) t2) rfl rfl (there_of_block HB16.out.2 0 5 (by simp)) (by kernel_rfl) (by simp [Value.oneCell']) ?_
        have hbl : (w16.setCells g14 0 (cReq b0 b1 b2 (t1 % 4294967296) t2).toList).heap[g14]? = some (.cells (cReq b0 b1 b2 (t1 % 4294967296) t2) 55 (0, 0)) := by rw [blk_setCells _ 0 _ _ HB16.out.2, setReq _ _ _ _ _ _ (by simp)]
        have HZ := Aside0.mk (And.intro (HO16.out.other HB16.out.1 (cReq b0 b1 b2 (t1 % 4294967296) t2).toList) hbl)
        clear hbl hHeld
        generalize w16.setCells g14 0 (cReq b0 b1 b2 (t1 % 4294967296) t2).toList = wz at HZ ⊢
        generalize g14 = gz at HZ ⊢
        refine hK.out _ _ (below_of_ob HZ.out.1) (fun hHeld => ?_)
        clear hK K hHeld
        try simp only [putL, putN, List.set]
        refine wpAnyH_done (by kernel_rfl) ?_ _
        go_wp2_with (first | ((with_reducible refine gate_ (.load 55 (.tmp 4)) rfl ?_); refine load_blk rfl 55 (.tmp 4) rfl gz _ 55 rfl _ HZ.out.2 Tryd.underlying55 rfl (by kernel_rfl) ?_) | ((with_reducible refine gate_ (.load 55 (.tmp 4)) rfl ?_); refine load_blk rfl 55 (.tmp 4) rfl gz _ 55 rfl _ HC.out.2 Tryd.underlying55 rfl (by kernel_rfl) ?_) | (go_at_call 88; refine (wire_Check.calls k b0 b1 b2 (t1 % 4294967296) t2 e _ HCK.out).mono ?_; rintro e9 w9 ⟨rfl, hb⟩; have HC := Aside0.mk (And.intro (HZ.out.1.below hb) (obj_below hb HZ.out.2)); clear hb) | ((with_reducible refine gate_store (p := 2) (t := 55) rfl ?_); refine store_blk rfl 55 (.tmp 2) (.tmp 37) rfl w.heap.size 0 (cReq 0 0 0 0 0) _ 55 rfl rfl HC.out.1.2 (by simp) (by kernel_rfl) (by simp [Value.oneCell']) ?_; intro wy ey hwy; have HY := Aside0.mk (HC.out.1.stored 0 0 0 0 0); rw [← show wy = _ from ey] at HY; clear ey hwy))
        obtain ⟨hb, c1⟩ := HY.out
        obtain ⟨z0, z1, z2, z3, z4⟩ := req_cells c1
        (try simp only [Exit.inBlock, Exit.then])
        refine bodyPost_ret (by simp [results, Tryd.results61, go_sem, z0, z1, z2, z3, z4]; try rfl) rfl ?_
        exact ⟨by first | rfl | simp, hb⟩

end Go.Proofs.YtoliipbmcekciaaDoor.QDc

namespace Go.Proofs.YtoliipbmcekciaaDoor.QDc
open Go.RowKit Go.Proofs.YtoliipbmcekciaaDoorW.PrintWords Go.Proofs.YtoliipbmcekciaaDoorW.PrintLast Go.Proofs.YtoliipbmcekciaaDoorW.PrintMore
set_option linter.unusedVariables false
set_option linter.unusedSimpArgs false

def chunk (l : List Int) (i : Nat) : List Int := (l.drop (16 * i)).take 16
/-- The piece at a place, as the program cuts it. -/
def chV (ad : Addr) (n : Nat) (i : Nat) : Value := .slice (some (ad.add (16 * i))) (min (n - 16 * i) 16) (min (n - 16 * i) 16)
/-- The loop's head. -/
def Spl (w : World) (ad : Addr) (n : Nat) (most : Int) (m : Nat) (v : Value) (wr : World) : Prop :=
  Below w.heap.size w wr ∧ wr.ownsRow w.heap.size 38 1 v m (encs (chV ad n) (List.range m)) ∧ 16 * m ≤ n + 15 ∧ (m : Int) ≤ max most 0

set_option maxRecDepth 100000 in
set_option maxHeartbeats 2000000 in
theorem Split_walk (ad : Addr) (c n : Nat) (most : Int) (w : World) (hc : n ≤ c) (hn : n ≤ 1000) :
    Calls Tryd.prog 60 #[.slice (some ad) n c, .int .i64 most] w fun e w' => ∃ v m, e = .returned v ∧ Spl w ad n most m v w' ∧ ¬ (16 * m < n ∧ (m : Int) < most) := by
  have HN := Aside0.mk hn
  have HC := Aside0.mk hc
  clear hc hn
  have H0 : Aside0 (Spl w ad n most 0 (.slice none 0 0) w) := ⟨⟨Below.refl _ _, World.ownsRow_nil _ _ _ _, by omega, by omega⟩⟩
  go_enter Tryd.func60, Tryd.ntmps60
  go_wp2
  go_loopw [5, 6] (fun v i wr => ∃ m : Nat, i = .int .i64 ((16 * m : Nat) : Int) ∧ Aside0 (Spl w ad n most m v wr)) (fun _ i _ => n - (intOf i).toNat)
  case atStart => exact ⟨0, rfl, H0⟩
  case round =>
    obtain ⟨m, rfl, hS⟩ := hrel
    obtain ⟨A, cp, rfl, hcp, _⟩ := own_reads_of_le (d := 0) hS.out.2.1
    obtain ⟨a, ha⟩ : ∃ a, 16 * m = a := ⟨_, rfl⟩
    have HA := Aside0.mk ha
    rw [ha]
    clear ha
    by_cases h1 : (a : Int) < (n : Int)
    · by_cases h2 : (m : Int) < most
      · have H1 := Aside0.mk h1
        have H2 := Aside0.mk h2
        have d1 : decide ((a : Int) < (n : Int)) = true := decide_eq_true h1
        have d2 : decide ((m : Int) < most) = true := decide_eq_true h2
        have s1 : wrap64 ((n : Int) - (a : Int)) = (n : Int) - (a : Int) := by have := HN.out; unfold wrap64; omega
        obtain ⟨e, he⟩ : ∃ e, min n (a + 16) = e := ⟨_, rfl⟩
        have hE : wrap64 ((if (16 : Int) < (n : Int) - (a : Int) then 16 else (n : Int) - (a : Int)) + (a : Int)) = (e : Int) := by
          have := HN.out
          rw [← he]
          unfold wrap64
          split <;> omega
        have HE := Aside0.mk he
        have e1 : a < e := by omega
        have e2 : e ≤ n := by omega
        clear he
        go_upto_region 6 with fail
        rw [hE]
        clear hE s1
        have e3 : (a : Int) ≤ (e : Int) := by omega
        have e4 : e ≤ c := by have := HC.out; omega
        have e5 : (e : Int) ≤ (c : Int) := by omega
        have e6 : (0 : Int) ≤ (a : Int) := by omega
        have HP : Aside0 (wr.ownsRow w.heap.size 38 1 (.slice A m cp) (encs (chV ad n) (List.range m)).length (encs (chV ad n) (List.range m))) := ⟨by rw [encs_length, List.length_range]; exact hS.out.2.1⟩
        have hml : Aside0 (((encs (chV ad n) (List.range m)).length + 1) * 24 ≤ 140737488355328) := ⟨by rw [encs_length, List.length_range]; have := HN.out; have := HA.out; omega⟩
        have hy : Aside0 (Value.slice (some (ad.add a)) (e - a) (e - a) = chV ad n m) := ⟨by
          unfold chV
          rw [HA.out, show e - a = min (n - a) 16 by have := HE.out; omega]⟩
        go_wp2_with (first | ((with_reducible refine gate_builtin (b := .append) rfl ?_); at_builtin; refine print_append (w0 := w) w.heap.size rfl (.tmp 27) (.tmp 33) 29 38 (.slice none 0 0) 24 rfl Tryd.underlying29 info38 rfl (by decide) (.slice A m cp) (encs (chV ad n) (List.range m)) (.slice (some (ad.add a)) (e - a) (e - a)) rfl rfl rfl HP.out hS.out.1 hS.out.1.size hml.out ?_; intro v1 w2 hown hB2 hg2 hat; have HX := Aside0.mk (And.intro hB2 hown); clear hown hB2 hg2 hat))
        have hw2 : wrap64 ((a : Int) + 16) = (a : Int) + 16 := by have := HN.out; have := H1.out; clear e3 e5 e6; unfold wrap64; omega
        have hk : (a : Int) + 16 = ((16 * (m + 1) : Nat) : Int) := by have := HA.out; omega
        have hh : n - ((a : Int) + 16).toNat < n - ((a : Int)).toNat := by have := H1.out; omega
        go_roundw
        case rel =>
          refine ⟨m + 1, ?_, ⟨HX.out.1, ?_, ?_, ?_⟩⟩
          · rw [hw2, hk]
          · have := HX.out.2
            rw [hy.out, show encs (chV ad n) (List.range m) ++ [chV ad n m] = encs (chV ad n) (List.range (m + 1)) by rw [List.range_succ, encs_append]; rfl, encs_length, List.length_range] at this
            exact this
          · have := H1.out; have := HA.out; omega
          · have := H2.out; omega
        case measure =>
          clear hk
          simp only [hw2]
          exact hh
      · have H2 := Aside0.mk h2
        have d1 : decide ((a : Int) < (n : Int)) = true := decide_eq_true h1
        have d2 : decide ((m : Int) < most) = false := decide_eq_false h2
        go_wp2
        go_ret
        exact ⟨_, rfl, m, hS.out, by have := H2.out; intro h; omega⟩
    · have H1 := Aside0.mk h1
      have d1 : decide ((a : Int) < (n : Int)) = false := decide_eq_false h1
      go_wp2
      go_ret
      exact ⟨_, rfl, m, hS.out, by have := H1.out; have := HA.out; intro h; omega⟩
end Go.Proofs.YtoliipbmcekciaaDoor.QDc
namespace Go.Proofs.YtoliipbmcekciaaDoor.QDc
open Go.RowKit Go.Proofs.YtoliipbmcekciaaDoorW.PrintWords Go.Proofs.YtoliipbmcekciaaDoorW.PrintLast Go.Proofs.YtoliipbmcekciaaDoorW.PrintMore
set_option linter.unusedVariables false
set_option linter.unusedSimpArgs false
/-- A piece of a row of numbers. -/
theorem C_sub {w : World} {k : IntKind} {ad : Addr} {n : Nat} {l : List Int} (h : Kd.C (Kd.int k) w (some ad) n l) (i m : Nat) (hm : i + m ≤ n) : Kd.C (Kd.int k) w (some (ad.add i)) m ((l.drop i).take m) := by
  obtain ⟨h1, h2, h3⟩ := h
  refine ⟨by rw [List.length_take, List.length_drop]; omega, by omega, fun hpos => ?_⟩
  obtain ⟨ad', he, hc⟩ := h3 (by omega)
  injection he with he
  subst he
  refine ⟨ad.add i, rfl, fun j p hj => ?_⟩
  have hjm : j < m := by
    have := (List.getElem?_eq_some_iff.1 hj).1
    rw [List.length_take, List.length_drop] at this
    omega
  have hl : l[i + j]? = some p := by
    rw [List.getElem?_take, if_pos hjm, List.getElem?_drop] at hj
    exact hj
  obtain ⟨c, h4, h5, h6⟩ := hc (i + j) p hl
  refine ⟨c, h4, h5, fun q u hu => ?_⟩
  rw [add_add']
  have := h6 q u hu
  rw [show (i + j) * (Kd.int k).sz + q = i + (j * (Kd.int k).sz + q) by show (i + j) * 1 + q = i + (j * 1 + q); omega] at this
  exact this
end Go.Proofs.YtoliipbmcekciaaDoor.QDc
namespace Go.Proofs.YtoliipbmcekciaaDoor.QDc
open Go.RowKit Go.Proofs.YtoliipbmcekciaaDoorW.PrintWords Go.Proofs.YtoliipbmcekciaaDoorW.PrintLast Go.Proofs.YtoliipbmcekciaaDoorW.PrintMore
set_option linter.unusedVariables false
set_option linter.unusedSimpArgs false

/-- The pieces of bytes, at most so many. -/
def pcs (l : List Int) (most : Int) : List (List Int) := (List.range (min ((l.length + 15) / 16) most.toNat)).map (chunk l)
set_option maxRecDepth 100000 in
set_option maxHeartbeats 1000000 in
theorem Split_zero (A : Option Addr) (c : Nat) (most : Int) (w : World) : Calls Tryd.prog 60 #[.slice A 0 c, .int .i64 most] w fun e w' => e = .returned (.slice none 0 0) ∧ Below w.heap.size w w' := by
  go_enter Tryd.func60, Tryd.ntmps60
  go_wp2
  go_loopw [5, 6] (fun v i wr => v = .slice none 0 0 ∧ i = .int .i64 0 ∧ wr = w) (fun _ _ _ => 0)
  case atStart => exact ⟨rfl, rfl, rfl⟩
  case round =>
    obtain ⟨rfl, rfl, rfl⟩ := hrel
    go_wp2
    go_ret
    exact ⟨rfl, Below.refl _ _⟩
end Go.Proofs.YtoliipbmcekciaaDoor.QDc

