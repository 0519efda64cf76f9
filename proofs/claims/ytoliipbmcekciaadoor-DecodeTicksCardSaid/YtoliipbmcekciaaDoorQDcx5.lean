/- Decode: the reference's Parse: its print, and its walk by hand. Written by a program of this repo (tools/gen_rparse.py). -/
import Derived.Test.YtoliipbmcekciaaDoorQDcx3
import Derived.Test.YtoliipbmcekciaaDoorQDcx4
import Derived.Test.YtoliipbmcekciaaDoorCDc
import Derived.Test.YtoliipbmcekciaaDoorPDc
namespace Go.Proofs.YtoliipbmcekciaaDoor.QDc
open Go.RowKit Go.Proofs.YtoliipbmcekciaaDoorW.PrintWords Go.Proofs.YtoliipbmcekciaaDoorW.PrintLast Go.Proofs.YtoliipbmcekciaaDoorW.PrintMore
set_option linter.unusedVariables false
set_option linter.unusedSimpArgs false

/-! ### rampartref03_Parse: function 34 -/
def rampartref03_Parse.f (k : Nat) (l0 : List Int) : Option (Int × Int × Int × Int × Int × Int) := if (l0.length : Int) = 16 then (if 0 < (l0.length : Int) then (if 1 < (l0.length : Int) then (if 2 < (l0.length : Int) then (if 4 ≤ 8 then (if 8 ≤ (l0.length : Int) then ((rampartref03_number.f k ((l0.take 8).drop 4)).bind fun t133 => ((rampartref03_number.f k (l0.drop 8)).bind fun t135 => (if 3 < (l0.length : Int) then (if (rd l0 3) = 0 then ((rampartref03_Is.f k (rd l0 0) (rd l0 1) (rd l0 2) ((t133) % 4294967296) t135).bind fun t138 => (if t138 = true then (some (rd l0 0, rd l0 1, rd l0 2, (t133) % 4294967296, t135, 0)) else (some (0, 0, 0, 0, 0, 30)))) else (some (0, 0, 0, 0, 0, 30))) else (none)))) else (none)) else (none)) else (none)) else (none)) else (none)) else (some (0, 0, 0, 0, 0, 30))
theorem rampartref03_Parse.mono : ∀ a0 k, LeO (rampartref03_Parse.f k a0) (rampartref03_Parse.f (k + 1) a0) := by
  intro a0 k
  unfold rampartref03_Parse.f
  repeat' first
      | (with_reducible exact rampartref03_Is.mono _ _ _ _ _ _)
      | (with_reducible exact rampartref03_number.mono _ _)
      | (with_reducible exact LeO.refl _)
      | (with_reducible exact LeO.none _)
      | (with_reducible refine LeO.ite ?_ ?_)
      | (with_reducible refine LeO.bind ?_ (fun _ => ?_))
      | exact rampartref03_Is.mono _ _ _ _ _ _
      | exact rampartref03_number.mono _ _
      | exact LeO.none _
      | refine LeO.ite ?_ ?_
      | refine LeO.bind ?_ (fun _ => ?_)

theorem drawn_below {w w' : World} (h : Drawn0 w w') : Below w.heap.size w w' := by
  obtain ⟨m, rfl⟩ := h
  exact pw_below_drewN (Below.refl _ _) m
set_option maxRecDepth 100000 in
set_option maxHeartbeats 1000000 in
theorem RParse_long (A : Option Addr) (c n : Nat) (w : World) (h16 : n ≠ 16) : Calls Tryd.prog 34 #[.slice A n c] w fun e w' => e = .returned (.tuple #[.agg (cReq 0 0 0 0 0), .int .i64 30]) ∧ Below w.heap.size w w' := by
  have hd : ((n : Int) != 16) = true := bne_iff_ne.mpr (by omega)
  have hd2 : ((n : Int) == 16) = false := beq_false_of_ne (by omega)
  clear h16
  go_enter Tryd.func34, Tryd.ntmps34
  go_wp2
  go_returns
  refine ⟨?_, ?_⟩
  · rfl
  · repeat (first | exact Below.refl _ _ | apply below_alloc | apply pw_below_drewN | apply below_drew1)

set_option maxRecDepth 100000 in
set_option maxHeartbeats 4000000 in
theorem RParse_ok (k : Nat) (ad : Addr) (c : Nat) (l : List Int) (w : World) (hc : 16 ≤ c) (h16 : l.length = 16) (hr : Kd.C (Kd.int .u8) w (some ad) 16 l) (b0 b1 b2 b3 : Int) (hb0 : rd l 0 = b0) (hb1 : rd l 1 = b1) (hb2 : rd l 2 = b2) (hb3 : rd l 3 = b3) (t1 t2 : Int) (h1 : rampartref03_number.f k ((l.take 8).drop 4) = some t1) (h2 : rampartref03_number.f k (l.drop 8) = some t2) (hz : b3 = 0) (hk : rampartref03_Is.f k b0 b1 b2 (t1 % 4294967296) t2 = some true) :
    Calls Tryd.prog 34 #[.slice (some ad) 16 c] w fun e' w' => e' = .returned (.tuple #[.agg (cReq b0 b1 b2 (t1 % 4294967296) t2), .int .i64 0]) ∧ Below w.heap.size w w' := by
  have HCK := Aside0.mk hk
  have hd : (b3 != 0) = false := bne_eq_false_iff_eq.mpr hz
  have hd2 : (b3 == 0) = true := beq_iff_eq.mpr hz
  clear hk hz
  have hc4 : ¬ c = 4 := by omega
  have hc8 : ¬ c = 8 := by omega
  have hcc : 8 ≤ c := by omega
  have hcc4 : (8 : Int) ≤ (c : Int) := by omega
  have hcc6 : (16 : Int) ≤ (c : Int) := by omega
  have HG1 : Aside0 (∀ w', Below w.heap.size w w' → Calls Tryd.prog 62 #[.slice (some ⟨ad.block, ad.off + 4, none⟩) 4 (c - 4)] w' fun e w'' => e = .returned (.int .u64 t1) ∧ Below w'.heap.size w' w'') := ⟨fun w' hb => by
    have e : (l.take 8).drop 4 = (l.drop 4).take 4 := by rw [List.drop_take]
    have hl : ((l.take 8).drop 4).length = 4 := by rw [List.length_drop, List.length_take]; omega
    have := rampartref03_number.calls k (some (ad.add 4)) (c - 4) ((l.take 8).drop 4) t1 w' (by rw [hl, e]; exact C_sub (Kd.C_below hr hb) 4 4 (by omega)) (by omega) h1
    rw [hl] at this
    exact this.mono fun e w'' h => ⟨h.1, drawn_below h.2⟩⟩
  have HG2 : Aside0 (∀ w', Below w.heap.size w w' → Calls Tryd.prog 62 #[.slice (some ⟨ad.block, ad.off + 8, none⟩) 8 (c - 8)] w' fun e w'' => e = .returned (.int .u64 t2) ∧ Below w'.heap.size w' w'') := ⟨fun w' hb => by
    have hl : (l.drop 8).length = 8 := by rw [List.length_drop]; omega
    have e : (l.drop 8).take 8 = l.drop 8 := List.take_of_length_le (by omega)
    have := rampartref03_number.calls k (some (ad.add 8)) (c - 8) (l.drop 8) t2 w' (by rw [hl]; have := C_sub (Kd.C_below hr hb) 8 8 (by omega); rw [e] at this; exact this) (by omega) h2
    rw [hl] at this
    exact this.mono fun e w'' h => ⟨h.1, drawn_below h.2⟩⟩
  obtain ⟨a0, e0, x0⟩ := Kd.at_int hr 0 (by omega) (by omega)
  obtain ⟨a1, e1, x1⟩ := Kd.at_int hr 1 (by omega) (by omega)
  obtain ⟨a2, e2, x2⟩ := Kd.at_int hr 2 (by omega) (by omega)
  obtain ⟨a3, e3, x3⟩ := Kd.at_int hr 3 (by omega) (by omega)
  injection e0 with e0
  injection e1 with e1
  injection e2 with e2
  injection e3 with e3
  subst e0 e1 e2 e3
  rw [hb0] at x0
  rw [hb1] at x1
  rw [hb2] at x2
  rw [hb3] at x3
  have X0 : Aside0 (w.cell? ad = some (.int .u8 b0)) := ⟨by rw [show (0 : Int).toNat = 0 from rfl, Addr.add_zero'] at x0; exact x0⟩
  have X1 : Aside0 (w.cell? ⟨ad.block, ad.off + 1, none⟩ = some (.int .u8 b1)) := ⟨x1⟩
  have X2 : Aside0 (w.cell? ⟨ad.block, ad.off + 2, none⟩ = some (.int .u8 b2)) := ⟨x2⟩
  have X3 : Aside0 (w.cell? ⟨ad.block, ad.off + 3, none⟩ = some (.int .u8 b3)) := ⟨x3⟩
  clear hr x0 x1 x2 x3 h1 h2 hb0 hb1 hb2 hb3
  go_enter Tryd.func34, Tryd.ntmps34
  go_upto_region 3 with fail
  change Code.wp Tryd.prog _ _ _ (w.alloc (.cells (cReq 0 0 0 0 0) 55))
  have HO0 : Aside0 (OB w (w.alloc (.cells (cReq 0 0 0 0 0) 55)).drew) := ⟨(OB.start w).below (pw_below_drewN (Below.refl _ _) 1)⟩
  refine wp_region_held_drew (S := fun w' => Below w.heap.size w w') (by kernel_rfl) HO0.out.1 (fun hHeld => ?_)
  generalize (w.alloc (.cells (cReq 0 0 0 0 0) 55)).drew = w0 at HO0 hHeld ⊢
  refine take_at (i := 0) (v := .slice (some ad) 16 c) 9 rfl rfl (by kernel_rfl) (by kernel_rfl) (by kernel_rfl) (fun _ _ _ h => h) (Or.inl ⟨by rfl, fun w _ => by first | (go_simp; done) | (go_simp; with_reducible rfl) | rfl⟩) hHeld ?_
  try simp only [Act.put, List.setIfInBounds_toArray, List.set_cons_zero, List.set_cons_succ]
  refine take_at (i := 1) (v := .pointer (some ad)) 10 rfl rfl (by kernel_rfl) (by kernel_rfl) (by kernel_rfl) (fun _ _ _ h => h) (Or.inl ⟨by rfl, fun w _ => by first | (go_simp; done) | (go_simp; with_reducible rfl) | rfl⟩) hHeld ?_
  try simp only [Act.put, List.setIfInBounds_toArray, List.set_cons_zero, List.set_cons_succ]
  refine take_at (i := 2) (v := .int .u8 b0) 11 rfl rfl (by kernel_rfl) (by kernel_rfl) (by kernel_rfl) (fun _ _ _ h => h) (Or.inl ⟨by rfl, fun w' hS => by have hq := pw_cell_below hS X0.out; go_simp⟩) hHeld ?_
  try simp only [Act.put, List.setIfInBounds_toArray, List.set_cons_zero, List.set_cons_succ]
  refine take_at (i := 3) (v := .slice (some ad) 16 c) 12 rfl rfl (by kernel_rfl) (by kernel_rfl) (by kernel_rfl) (fun _ _ _ h => h) (Or.inl ⟨by rfl, fun w _ => by first | (go_simp; done) | (go_simp; with_reducible rfl) | rfl⟩) hHeld ?_
  try simp only [Act.put, List.setIfInBounds_toArray, List.set_cons_zero, List.set_cons_succ]
  refine take_at (i := 4) (v := .pointer (some ⟨ad.block, ad.off + 1, none⟩)) 13 rfl rfl (by kernel_rfl) (by kernel_rfl) (by kernel_rfl) (fun _ _ _ h => h) (Or.inl ⟨by rfl, fun w _ => by first | (go_simp; done) | (go_simp; with_reducible rfl) | rfl⟩) hHeld ?_
  try simp only [Act.put, List.setIfInBounds_toArray, List.set_cons_zero, List.set_cons_succ]
  refine take_at (i := 5) (v := .int .u8 b1) 14 rfl rfl (by kernel_rfl) (by kernel_rfl) (by kernel_rfl) (fun _ _ _ h => h) (Or.inl ⟨by rfl, fun w' hS => by have hq := pw_cell_below hS X1.out; go_simp⟩) hHeld ?_
  try simp only [Act.put, List.setIfInBounds_toArray, List.set_cons_zero, List.set_cons_succ]
  refine take_at (i := 6) (v := .slice (some ad) 16 c) 15 rfl rfl (by kernel_rfl) (by kernel_rfl) (by kernel_rfl) (fun _ _ _ h => h) (Or.inl ⟨by rfl, fun w _ => by first | (go_simp; done) | (go_simp; with_reducible rfl) | rfl⟩) hHeld ?_
  try simp only [Act.put, List.setIfInBounds_toArray, List.set_cons_zero, List.set_cons_succ]
  refine take_at (i := 7) (v := .pointer (some ⟨ad.block, ad.off + 2, none⟩)) 16 rfl rfl (by kernel_rfl) (by kernel_rfl) (by kernel_rfl) (fun _ _ _ h => h) (Or.inl ⟨by rfl, fun w _ => by first | (go_simp; done) | (go_simp; with_reducible rfl) | rfl⟩) hHeld ?_
  try simp only [Act.put, List.setIfInBounds_toArray, List.set_cons_zero, List.set_cons_succ]
  refine take_at (i := 8) (v := .int .u8 b2) 17 rfl rfl (by kernel_rfl) (by kernel_rfl) (by kernel_rfl) (fun _ _ _ h => h) (Or.inl ⟨by rfl, fun w' hS => by have hq := pw_cell_below hS X2.out; go_simp⟩) hHeld ?_
  try simp only [Act.put, List.setIfInBounds_toArray, List.set_cons_zero, List.set_cons_succ]
  refine take_at (i := 9) (v := .slice (some ad) 16 c) 18 rfl rfl (by kernel_rfl) (by kernel_rfl) (by kernel_rfl) (fun _ _ _ h => h) (Or.inl ⟨by rfl, fun w _ => by first | (go_simp; done) | (go_simp; with_reducible rfl) | rfl⟩) hHeld ?_
  try simp only [Act.put, List.setIfInBounds_toArray, List.set_cons_zero, List.set_cons_succ]
  refine take_at (i := 10) (v := .slice (some ⟨ad.block, ad.off + 4, none⟩) 4 (c - 4)) 19 rfl rfl (by kernel_rfl) (by kernel_rfl) (by kernel_rfl) (fun _ _ _ h => h) (Or.inl ⟨by rfl, fun w _ => by first | (go_simp; done) | (go_simp; with_reducible rfl) | rfl⟩) hHeld ?_
  try simp only [Act.put, List.setIfInBounds_toArray, List.set_cons_zero, List.set_cons_succ]
  refine take_at (i := 13) (v := .slice (some ad) 16 c) 22 rfl rfl (by kernel_rfl) (by kernel_rfl) (by kernel_rfl) (fun _ _ _ h => h) (Or.inl ⟨by rfl, fun w _ => by first | (go_simp; done) | (go_simp; with_reducible rfl) | rfl⟩) hHeld ?_
  try simp only [Act.put, List.setIfInBounds_toArray, List.set_cons_zero, List.set_cons_succ]
  refine take_at (i := 14) (v := .slice (some ⟨ad.block, ad.off + 8, none⟩) 8 (c - 8)) 23 rfl rfl (by kernel_rfl) (by kernel_rfl) (by kernel_rfl) (fun _ _ _ h => h) (Or.inl ⟨by rfl, fun w _ => by first | (go_simp; done) | (go_simp; with_reducible rfl) | rfl⟩) hHeld ?_
  try simp only [Act.put, List.setIfInBounds_toArray, List.set_cons_zero, List.set_cons_succ]
  refine wpAnyH_ready (rs := [11, 17]) (by kernel_rfl) (by simp) ?_
  refine AllReadyH.cons rfl (fun K hK => ?_) (AllReadyH.cons rfl (fun K hK => ?_) AllReadyH.nil)
  · skip
    go_simp
    go_wp2_with (first | (go_at_call 62; refine (HG1.out _ hHeld).mono ?_; rintro e1 w1 ⟨rfl, hb⟩; have HO1 := Aside0.mk (HO0.out.below hb); clear hb))
    clear hHeld
    refine hK.out _ _ (below_of_ob HO1.out) (fun hHeld => ?_)
    clear hK K
    try simp only [Act.put, List.setIfInBounds_toArray, List.set_cons_zero, List.set_cons_succ]
    refine take_at (i := 12) (v := .int .u32 (t1 % 4294967296)) 21 rfl rfl (by kernel_rfl) (by kernel_rfl) (by kernel_rfl) (fun _ _ _ h => h) (Or.inl ⟨by rfl, fun w _ => by first | (go_simp; done) | (go_simp; with_reducible rfl) | rfl⟩) hHeld ?_
    try simp only [Act.put, List.setIfInBounds_toArray, List.set_cons_zero, List.set_cons_succ]
    refine wpAnyH_ready (rs := [15, 17]) (by kernel_rfl) (by simp) ?_
    refine AllReadyH.cons rfl (fun K hK => ?_) (AllReadyH.cons rfl (fun K hK => ?_) AllReadyH.nil)
    · skip
      go_simp
      go_wp2_with (first | (go_at_call 62; refine (HG2.out _ hHeld).mono ?_; rintro e2 w2 ⟨rfl, hb⟩; have HO2 := Aside0.mk (HO1.out.below hb); clear hb))
      clear hHeld
      refine hK.out _ _ (below_of_ob HO2.out) (fun hHeld => ?_)
      clear hK K
      try simp only [Act.put, List.setIfInBounds_toArray, List.set_cons_zero, List.set_cons_succ]
      refine take_at (i := 16) (v := .agg (cReq b0 b1 b2 (t1 % 4294967296) t2)) 25 rfl rfl (by kernel_rfl) (by kernel_rfl) (by kernel_rfl) (fun _ _ _ h => h) (Or.inl ⟨by rfl, fun w _ => by first | (go_simp; done) | (go_simp; with_reducible rfl) | rfl⟩) hHeld ?_
      try simp only [Act.put, List.setIfInBounds_toArray, List.set_cons_zero, List.set_cons_succ]
      refine wpAnyH_ready (rs := [17]) (by kernel_rfl) (by simp) ?_
      refine AllReadyH.cons rfl (fun K hK => ?_) AllReadyH.nil
      · skip
        go_simp
        obtain ⟨g3, hg3⟩ : ∃ g, w2.heap.size = g := ⟨_, rfl⟩
        have HA3 : Aside0 (w.heap.size < w2.heap.size ∧ (w2.alloc (.cells (cReq 0 0 0 0 0) 55)).heap[w2.heap.size]? = some (.cells (cReq 0 0 0 0 0) 55 (0, 0))) := ⟨(Array.getElem?_eq_some_iff.1 HO2.out.2).1, heap_alloc_new _ _⟩
        have HO3 : Aside0 (OB w (w2.alloc (.cells (cReq 0 0 0 0 0) 55))) := ⟨HO2.out.below (below_alloc (Below.refl _ _) _)⟩
        rw [hg3] at HA3 ⊢
        clear hHeld hg3
        generalize w2.alloc (.cells (cReq 0 0 0 0 0) 55) = wA3 at HA3 HO3 ⊢
        refine hK.out _ _ (below_of_ob HO3.out) (fun hHeld => ?_)
        clear hK K
        try simp only [Act.put, List.setIfInBounds_toArray, List.set_cons_zero, List.set_cons_succ]
        refine wpAnyH_ready (rs := [18]) (by kernel_rfl) (by simp) ?_
        refine AllReadyH.cons rfl (fun K hK => ?_) AllReadyH.nil
        rw [if_pos (by rfl)]
        refine store_at rfl 55 (.tmp 4) (.tmp 25) rfl g3 0 (cReq b0 b1 b2 (t1 % 4294967296) t2) rfl rfl (there_of_block HA3.out.2 0 5 (by simp)) (by kernel_rfl) (by simp [Value.oneCell']) ?_
        have hbl : (wA3.setCells g3 0 (cReq b0 b1 b2 (t1 % 4294967296) t2).toList).heap[g3]? = some (.cells (cReq b0 b1 b2 (t1 % 4294967296) t2) 55 (0, 0)) := by rw [blk_setCells _ 0 _ _ HA3.out.2, setReq _ _ _ _ _ _ (by simp)]
        have HZ := Aside0.mk (And.intro (HO3.out.other HA3.out.1 (cReq b0 b1 b2 (t1 % 4294967296) t2).toList) hbl)
        clear hbl hHeld
        generalize wA3.setCells g3 0 (cReq b0 b1 b2 (t1 % 4294967296) t2).toList = wz at HZ ⊢
        generalize g3 = gz at HZ ⊢
        refine hK.out _ _ (below_of_ob HZ.out.1) (fun hHeld => ?_)
        clear hK K hHeld
        try simp only [Act.put, List.setIfInBounds_toArray, List.set_cons_zero, List.set_cons_succ]
        refine wpAnyH_done (by kernel_rfl) ?_ _
        have x3 := pw_cell_below HZ.out.1.1 X3.out
        obtain ⟨q0, q1, q2, q3, q4⟩ := req_cells HZ.out.2
        go_wp2_with (first | ((with_reducible refine gate_ (.load 55 (.tmp 4)) rfl ?_); refine load_blk rfl 55 (.tmp 4) rfl gz _ 55 rfl _ HC.out.2 Tryd.underlying55 rfl (by kernel_rfl) ?_) | ((with_reducible refine gate_ (.load 55 (.tmp 4)) rfl ?_); refine load_blk rfl 55 (.tmp 4) rfl gz _ 55 rfl _ HZ.out.2 Tryd.underlying55 rfl (by kernel_rfl) ?_) | (go_at_call 63; refine (rampartref03_Is.calls k b0 b1 b2 (t1 % 4294967296) t2 true _ HCK.out).mono ?_; rintro e9 w9 ⟨rfl, hb⟩; have HC := Aside0.mk (And.intro (HZ.out.1.below hb) (obj_below hb HZ.out.2)); clear hb) | ((with_reducible refine gate_store (p := 2) (t := 55) rfl ?_); refine store_blk rfl 55 (.tmp 2) (.tmp 36) rfl w.heap.size 0 (cReq b0 b1 b2 (t1 % 4294967296) t2) _ 55 rfl rfl HC.out.1.2 (by simp) (by kernel_rfl) (by simp [Value.oneCell']) ?_; intro wy ey hwy; have HY := Aside0.mk (HC.out.1.stored b0 b1 b2 (t1 % 4294967296) t2); rw [← show wy = _ from ey] at HY; clear ey hwy) | ((with_reducible refine gate_store (p := 2) (t := 55) rfl ?_); refine store_blk rfl 55 (.tmp 2) (.tmp 36) rfl w.heap.size 0 (cReq b0 b1 b2 (t1 % 4294967296) t2) _ 55 rfl rfl HZ.out.1.2 (by simp) (by kernel_rfl) (by simp [Value.oneCell']) ?_; intro wy ey hwy; have HY := Aside0.mk (HZ.out.1.stored b0 b1 b2 (t1 % 4294967296) t2); rw [← show wy = _ from ey] at HY; clear ey hwy))
        obtain ⟨hb, c1⟩ := HY.out
        clear x3 q0 q1 q2 q3 q4
        obtain ⟨z0, z1, z2, z3, z4⟩ := req_cells c1
        (try simp only [Exit.inBlock, Exit.then])
        refine bodyPost_ret (by simp [results, Tryd.results34, go_sem, z0, z1, z2, z3, z4]; try rfl) rfl ?_
        exact ⟨by first | rfl | simp, hb⟩
    · skip
      go_simp
      obtain ⟨g4, hg4⟩ : ∃ g, w1.heap.size = g := ⟨_, rfl⟩
      have HA4 : Aside0 (w.heap.size < w1.heap.size ∧ (w1.alloc (.cells (cReq 0 0 0 0 0) 55)).heap[w1.heap.size]? = some (.cells (cReq 0 0 0 0 0) 55 (0, 0))) := ⟨(Array.getElem?_eq_some_iff.1 HO1.out.2).1, heap_alloc_new _ _⟩
      have HO4 : Aside0 (OB w (w1.alloc (.cells (cReq 0 0 0 0 0) 55))) := ⟨HO1.out.below (below_alloc (Below.refl _ _) _)⟩
      rw [hg4] at HA4 ⊢
      clear hHeld hg4
      generalize w1.alloc (.cells (cReq 0 0 0 0 0) 55) = wA4 at HA4 HO4 ⊢
      refine hK.out _ _ (below_of_ob HO4.out) (fun hHeld => ?_)
      clear hK K
      try simp only [Act.put, List.setIfInBounds_toArray, List.set_cons_zero, List.set_cons_succ]
      refine wpAnyH_ready (rs := [15]) (by kernel_rfl) (by simp) ?_
      refine AllReadyH.cons rfl (fun K hK => ?_) AllReadyH.nil
      · skip
        go_simp
        go_wp2_with (first | (go_at_call 62; refine (HG2.out _ hHeld).mono ?_; rintro e5 w5 ⟨rfl, hb⟩; have HO5 := Aside0.mk (HO4.out.below hb); have HB5 : Aside0 (w.heap.size < g4 ∧ w5.heap[g4]? = some (.cells (cReq 0 0 0 0 0) 55 (0, 0))) := ⟨HA4.out.1, obj_below hb HA4.out.2⟩; clear hb))
        clear hHeld
        refine hK.out _ _ (below_of_ob HO5.out) (fun hHeld => ?_)
        clear hK K
        try simp only [Act.put, List.setIfInBounds_toArray, List.set_cons_zero, List.set_cons_succ]
        refine take_at (i := 16) (v := .agg (cReq b0 b1 b2 (t1 % 4294967296) t2)) 25 rfl rfl (by kernel_rfl) (by kernel_rfl) (by kernel_rfl) (fun _ _ _ h => h) (Or.inl ⟨by rfl, fun w _ => by first | (go_simp; done) | (go_simp; with_reducible rfl) | rfl⟩) hHeld ?_
        try simp only [Act.put, List.setIfInBounds_toArray, List.set_cons_zero, List.set_cons_succ]
        refine wpAnyH_ready (rs := [18]) (by kernel_rfl) (by simp) ?_
        refine AllReadyH.cons rfl (fun K hK => ?_) AllReadyH.nil
        rw [if_pos (by rfl)]
        refine store_at rfl 55 (.tmp 4) (.tmp 25) rfl g4 0 (cReq b0 b1 b2 (t1 % 4294967296) t2) rfl rfl (there_of_block HB5.out.2 0 5 (by simp)) (by kernel_rfl) (by simp [Value.oneCell']) ?_
        have hbl : (w5.setCells g4 0 (cReq b0 b1 b2 (t1 % 4294967296) t2).toList).heap[g4]? = some (.cells (cReq b0 b1 b2 (t1 % 4294967296) t2) 55 (0, 0)) := by rw [blk_setCells _ 0 _ _ HB5.out.2, setReq _ _ _ _ _ _ (by simp)]
        have HZ := Aside0.mk (And.intro (HO5.out.other HB5.out.1 (cReq b0 b1 b2 (t1 % 4294967296) t2).toList) hbl)
        clear hbl hHeld
        generalize w5.setCells g4 0 (cReq b0 b1 b2 (t1 % 4294967296) t2).toList = wz at HZ ⊢
        generalize g4 = gz at HZ ⊢
        refine hK.out _ _ (below_of_ob HZ.out.1) (fun hHeld => ?_)
        clear hK K hHeld
        try simp only [Act.put, List.setIfInBounds_toArray, List.set_cons_zero, List.set_cons_succ]
        refine wpAnyH_done (by kernel_rfl) ?_ _
        have x3 := pw_cell_below HZ.out.1.1 X3.out
        obtain ⟨q0, q1, q2, q3, q4⟩ := req_cells HZ.out.2
        go_wp2_with (first | ((with_reducible refine gate_ (.load 55 (.tmp 4)) rfl ?_); refine load_blk rfl 55 (.tmp 4) rfl gz _ 55 rfl _ HC.out.2 Tryd.underlying55 rfl (by kernel_rfl) ?_) | ((with_reducible refine gate_ (.load 55 (.tmp 4)) rfl ?_); refine load_blk rfl 55 (.tmp 4) rfl gz _ 55 rfl _ HZ.out.2 Tryd.underlying55 rfl (by kernel_rfl) ?_) | (go_at_call 63; refine (rampartref03_Is.calls k b0 b1 b2 (t1 % 4294967296) t2 true _ HCK.out).mono ?_; rintro e9 w9 ⟨rfl, hb⟩; have HC := Aside0.mk (And.intro (HZ.out.1.below hb) (obj_below hb HZ.out.2)); clear hb) | ((with_reducible refine gate_store (p := 2) (t := 55) rfl ?_); refine store_blk rfl 55 (.tmp 2) (.tmp 36) rfl w.heap.size 0 (cReq b0 b1 b2 (t1 % 4294967296) t2) _ 55 rfl rfl HC.out.1.2 (by simp) (by kernel_rfl) (by simp [Value.oneCell']) ?_; intro wy ey hwy; have HY := Aside0.mk (HC.out.1.stored b0 b1 b2 (t1 % 4294967296) t2); rw [← show wy = _ from ey] at HY; clear ey hwy) | ((with_reducible refine gate_store (p := 2) (t := 55) rfl ?_); refine store_blk rfl 55 (.tmp 2) (.tmp 36) rfl w.heap.size 0 (cReq b0 b1 b2 (t1 % 4294967296) t2) _ 55 rfl rfl HZ.out.1.2 (by simp) (by kernel_rfl) (by simp [Value.oneCell']) ?_; intro wy ey hwy; have HY := Aside0.mk (HZ.out.1.stored b0 b1 b2 (t1 % 4294967296) t2); rw [← show wy = _ from ey] at HY; clear ey hwy))
        obtain ⟨hb, c1⟩ := HY.out
        clear x3 q0 q1 q2 q3 q4
        obtain ⟨z0, z1, z2, z3, z4⟩ := req_cells c1
        (try simp only [Exit.inBlock, Exit.then])
        refine bodyPost_ret (by simp [results, Tryd.results34, go_sem, z0, z1, z2, z3, z4]; try rfl) rfl ?_
        exact ⟨by first | rfl | simp, hb⟩
  · skip
    go_simp
    obtain ⟨g6, hg6⟩ : ∃ g, w0.heap.size = g := ⟨_, rfl⟩
    have HA6 : Aside0 (w.heap.size < w0.heap.size ∧ (w0.alloc (.cells (cReq 0 0 0 0 0) 55)).heap[w0.heap.size]? = some (.cells (cReq 0 0 0 0 0) 55 (0, 0))) := ⟨(Array.getElem?_eq_some_iff.1 HO0.out.2).1, heap_alloc_new _ _⟩
    have HO6 : Aside0 (OB w (w0.alloc (.cells (cReq 0 0 0 0 0) 55))) := ⟨HO0.out.below (below_alloc (Below.refl _ _) _)⟩
    rw [hg6] at HA6 ⊢
    clear hHeld hg6
    generalize w0.alloc (.cells (cReq 0 0 0 0 0) 55) = wA6 at HA6 HO6 ⊢
    refine hK.out _ _ (below_of_ob HO6.out) (fun hHeld => ?_)
    clear hK K
    try simp only [Act.put, List.setIfInBounds_toArray, List.set_cons_zero, List.set_cons_succ]
    refine wpAnyH_ready (rs := [11]) (by kernel_rfl) (by simp) ?_
    refine AllReadyH.cons rfl (fun K hK => ?_) AllReadyH.nil
    · skip
      go_simp
      go_wp2_with (first | (go_at_call 62; refine (HG1.out _ hHeld).mono ?_; rintro e7 w7 ⟨rfl, hb⟩; have HO7 := Aside0.mk (HO6.out.below hb); have HB7 : Aside0 (w.heap.size < g6 ∧ w7.heap[g6]? = some (.cells (cReq 0 0 0 0 0) 55 (0, 0))) := ⟨HA6.out.1, obj_below hb HA6.out.2⟩; clear hb))
      clear hHeld
      refine hK.out _ _ (below_of_ob HO7.out) (fun hHeld => ?_)
      clear hK K
      try simp only [Act.put, List.setIfInBounds_toArray, List.set_cons_zero, List.set_cons_succ]
      refine take_at (i := 12) (v := .int .u32 (t1 % 4294967296)) 21 rfl rfl (by kernel_rfl) (by kernel_rfl) (by kernel_rfl) (fun _ _ _ h => h) (Or.inl ⟨by rfl, fun w _ => by first | (go_simp; done) | (go_simp; with_reducible rfl) | rfl⟩) hHeld ?_
      try simp only [Act.put, List.setIfInBounds_toArray, List.set_cons_zero, List.set_cons_succ]
      refine wpAnyH_ready (rs := [15]) (by kernel_rfl) (by simp) ?_
      refine AllReadyH.cons rfl (fun K hK => ?_) AllReadyH.nil
      · skip
        go_simp
        go_wp2_with (first | (go_at_call 62; refine (HG2.out _ hHeld).mono ?_; rintro e8 w8 ⟨rfl, hb⟩; have HO8 := Aside0.mk (HO7.out.below hb); have HB8 : Aside0 (w.heap.size < g6 ∧ w8.heap[g6]? = some (.cells (cReq 0 0 0 0 0) 55 (0, 0))) := ⟨HB7.out.1, obj_below hb HB7.out.2⟩; clear hb))
        clear hHeld
        refine hK.out _ _ (below_of_ob HO8.out) (fun hHeld => ?_)
        clear hK K
        try simp only [Act.put, List.setIfInBounds_toArray, List.set_cons_zero, List.set_cons_succ]
        refine take_at (i := 16) (v := .agg (cReq b0 b1 b2 (t1 % 4294967296) t2)) 25 rfl rfl (by kernel_rfl) (by kernel_rfl) (by kernel_rfl) (fun _ _ _ h => h) (Or.inl ⟨by rfl, fun w _ => by first | (go_simp; done) | (go_simp; with_reducible rfl) | rfl⟩) hHeld ?_
        try simp only [Act.put, List.setIfInBounds_toArray, List.set_cons_zero, List.set_cons_succ]
        refine wpAnyH_ready (rs := [18]) (by kernel_rfl) (by simp) ?_
        refine AllReadyH.cons rfl (fun K hK => ?_) AllReadyH.nil
        rw [if_pos (by rfl)]
        refine store_at rfl 55 (.tmp 4) (.tmp 25) rfl g6 0 (cReq b0 b1 b2 (t1 % 4294967296) t2) rfl rfl (there_of_block HB8.out.2 0 5 (by simp)) (by kernel_rfl) (by simp [Value.oneCell']) ?_
        have hbl : (w8.setCells g6 0 (cReq b0 b1 b2 (t1 % 4294967296) t2).toList).heap[g6]? = some (.cells (cReq b0 b1 b2 (t1 % 4294967296) t2) 55 (0, 0)) := by rw [blk_setCells _ 0 _ _ HB8.out.2, setReq _ _ _ _ _ _ (by simp)]
        have HZ := Aside0.mk (And.intro (HO8.out.other HB8.out.1 (cReq b0 b1 b2 (t1 % 4294967296) t2).toList) hbl)
        clear hbl hHeld
        generalize w8.setCells g6 0 (cReq b0 b1 b2 (t1 % 4294967296) t2).toList = wz at HZ ⊢
        generalize g6 = gz at HZ ⊢
        refine hK.out _ _ (below_of_ob HZ.out.1) (fun hHeld => ?_)
        clear hK K hHeld
        try simp only [Act.put, List.setIfInBounds_toArray, List.set_cons_zero, List.set_cons_succ]
        refine wpAnyH_done (by kernel_rfl) ?_ _
        have x3 := pw_cell_below HZ.out.1.1 X3.out
        obtain ⟨q0, q1, q2, q3, q4⟩ := req_cells HZ.out.2
        go_wp2_with (first | ((with_reducible refine gate_ (.load 55 (.tmp 4)) rfl ?_); refine load_blk rfl 55 (.tmp 4) rfl gz _ 55 rfl _ HC.out.2 Tryd.underlying55 rfl (by kernel_rfl) ?_) | ((with_reducible refine gate_ (.load 55 (.tmp 4)) rfl ?_); refine load_blk rfl 55 (.tmp 4) rfl gz _ 55 rfl _ HZ.out.2 Tryd.underlying55 rfl (by kernel_rfl) ?_) | (go_at_call 63; refine (rampartref03_Is.calls k b0 b1 b2 (t1 % 4294967296) t2 true _ HCK.out).mono ?_; rintro e9 w9 ⟨rfl, hb⟩; have HC := Aside0.mk (And.intro (HZ.out.1.below hb) (obj_below hb HZ.out.2)); clear hb) | ((with_reducible refine gate_store (p := 2) (t := 55) rfl ?_); refine store_blk rfl 55 (.tmp 2) (.tmp 36) rfl w.heap.size 0 (cReq b0 b1 b2 (t1 % 4294967296) t2) _ 55 rfl rfl HC.out.1.2 (by simp) (by kernel_rfl) (by simp [Value.oneCell']) ?_; intro wy ey hwy; have HY := Aside0.mk (HC.out.1.stored b0 b1 b2 (t1 % 4294967296) t2); rw [← show wy = _ from ey] at HY; clear ey hwy) | ((with_reducible refine gate_store (p := 2) (t := 55) rfl ?_); refine store_blk rfl 55 (.tmp 2) (.tmp 36) rfl w.heap.size 0 (cReq b0 b1 b2 (t1 % 4294967296) t2) _ 55 rfl rfl HZ.out.1.2 (by simp) (by kernel_rfl) (by simp [Value.oneCell']) ?_; intro wy ey hwy; have HY := Aside0.mk (HZ.out.1.stored b0 b1 b2 (t1 % 4294967296) t2); rw [← show wy = _ from ey] at HY; clear ey hwy))
        obtain ⟨hb, c1⟩ := HY.out
        clear x3 q0 q1 q2 q3 q4
        obtain ⟨z0, z1, z2, z3, z4⟩ := req_cells c1
        (try simp only [Exit.inBlock, Exit.then])
        refine bodyPost_ret (by simp [results, Tryd.results34, go_sem, z0, z1, z2, z3, z4]; try rfl) rfl ?_
        exact ⟨by first | rfl | simp, hb⟩

set_option maxRecDepth 100000 in
set_option maxHeartbeats 4000000 in
theorem RParse_bad (k : Nat) (ad : Addr) (c : Nat) (l : List Int) (w : World) (hc : 16 ≤ c) (h16 : l.length = 16) (hr : Kd.C (Kd.int .u8) w (some ad) 16 l) (b0 b1 b2 b3 : Int) (hb0 : rd l 0 = b0) (hb1 : rd l 1 = b1) (hb2 : rd l 2 = b2) (hb3 : rd l 3 = b3) (t1 t2 : Int) (h1 : rampartref03_number.f k ((l.take 8).drop 4) = some t1) (h2 : rampartref03_number.f k (l.drop 8) = some t2) (hz : b3 = 0) (hk : rampartref03_Is.f k b0 b1 b2 (t1 % 4294967296) t2 = some false) :
    Calls Tryd.prog 34 #[.slice (some ad) 16 c] w fun e' w' => e' = .returned (.tuple #[.agg (cReq 0 0 0 0 0), .int .i64 30]) ∧ Below w.heap.size w w' := by
  have HCK := Aside0.mk hk
  have hd : (b3 != 0) = false := bne_eq_false_iff_eq.mpr hz
  have hd2 : (b3 == 0) = true := beq_iff_eq.mpr hz
  clear hk hz
  have hc4 : ¬ c = 4 := by omega
  have hc8 : ¬ c = 8 := by omega
  have hcc : 8 ≤ c := by omega
  have hcc4 : (8 : Int) ≤ (c : Int) := by omega
  have hcc6 : (16 : Int) ≤ (c : Int) := by omega
  have HG1 : Aside0 (∀ w', Below w.heap.size w w' → Calls Tryd.prog 62 #[.slice (some ⟨ad.block, ad.off + 4, none⟩) 4 (c - 4)] w' fun e w'' => e = .returned (.int .u64 t1) ∧ Below w'.heap.size w' w'') := ⟨fun w' hb => by
    have e : (l.take 8).drop 4 = (l.drop 4).take 4 := by rw [List.drop_take]
    have hl : ((l.take 8).drop 4).length = 4 := by rw [List.length_drop, List.length_take]; omega
    have := rampartref03_number.calls k (some (ad.add 4)) (c - 4) ((l.take 8).drop 4) t1 w' (by rw [hl, e]; exact C_sub (Kd.C_below hr hb) 4 4 (by omega)) (by omega) h1
    rw [hl] at this
    exact this.mono fun e w'' h => ⟨h.1, drawn_below h.2⟩⟩
  have HG2 : Aside0 (∀ w', Below w.heap.size w w' → Calls Tryd.prog 62 #[.slice (some ⟨ad.block, ad.off + 8, none⟩) 8 (c - 8)] w' fun e w'' => e = .returned (.int .u64 t2) ∧ Below w'.heap.size w' w'') := ⟨fun w' hb => by
    have hl : (l.drop 8).length = 8 := by rw [List.length_drop]; omega
    have e : (l.drop 8).take 8 = l.drop 8 := List.take_of_length_le (by omega)
    have := rampartref03_number.calls k (some (ad.add 8)) (c - 8) (l.drop 8) t2 w' (by rw [hl]; have := C_sub (Kd.C_below hr hb) 8 8 (by omega); rw [e] at this; exact this) (by omega) h2
    rw [hl] at this
    exact this.mono fun e w'' h => ⟨h.1, drawn_below h.2⟩⟩
  obtain ⟨a0, e0, x0⟩ := Kd.at_int hr 0 (by omega) (by omega)
  obtain ⟨a1, e1, x1⟩ := Kd.at_int hr 1 (by omega) (by omega)
  obtain ⟨a2, e2, x2⟩ := Kd.at_int hr 2 (by omega) (by omega)
  obtain ⟨a3, e3, x3⟩ := Kd.at_int hr 3 (by omega) (by omega)
  injection e0 with e0
  injection e1 with e1
  injection e2 with e2
  injection e3 with e3
  subst e0 e1 e2 e3
  rw [hb0] at x0
  rw [hb1] at x1
  rw [hb2] at x2
  rw [hb3] at x3
  have X0 : Aside0 (w.cell? ad = some (.int .u8 b0)) := ⟨by rw [show (0 : Int).toNat = 0 from rfl, Addr.add_zero'] at x0; exact x0⟩
  have X1 : Aside0 (w.cell? ⟨ad.block, ad.off + 1, none⟩ = some (.int .u8 b1)) := ⟨x1⟩
  have X2 : Aside0 (w.cell? ⟨ad.block, ad.off + 2, none⟩ = some (.int .u8 b2)) := ⟨x2⟩
  have X3 : Aside0 (w.cell? ⟨ad.block, ad.off + 3, none⟩ = some (.int .u8 b3)) := ⟨x3⟩
  clear hr x0 x1 x2 x3 h1 h2 hb0 hb1 hb2 hb3
  go_enter Tryd.func34, Tryd.ntmps34
  go_upto_region 3 with fail
  change Code.wp Tryd.prog _ _ _ (w.alloc (.cells (cReq 0 0 0 0 0) 55))
  have HO0 : Aside0 (OB w (w.alloc (.cells (cReq 0 0 0 0 0) 55)).drew) := ⟨(OB.start w).below (pw_below_drewN (Below.refl _ _) 1)⟩
  refine wp_region_held_drew (S := fun w' => Below w.heap.size w w') (by kernel_rfl) HO0.out.1 (fun hHeld => ?_)
  generalize (w.alloc (.cells (cReq 0 0 0 0 0) 55)).drew = w0 at HO0 hHeld ⊢
  refine take_at (i := 0) (v := .slice (some ad) 16 c) 9 rfl rfl (by kernel_rfl) (by kernel_rfl) (by kernel_rfl) (fun _ _ _ h => h) (Or.inl ⟨by rfl, fun w _ => by first | (go_simp; done) | (go_simp; with_reducible rfl) | rfl⟩) hHeld ?_
  try simp only [Act.put, List.setIfInBounds_toArray, List.set_cons_zero, List.set_cons_succ]
  refine take_at (i := 1) (v := .pointer (some ad)) 10 rfl rfl (by kernel_rfl) (by kernel_rfl) (by kernel_rfl) (fun _ _ _ h => h) (Or.inl ⟨by rfl, fun w _ => by first | (go_simp; done) | (go_simp; with_reducible rfl) | rfl⟩) hHeld ?_
  try simp only [Act.put, List.setIfInBounds_toArray, List.set_cons_zero, List.set_cons_succ]
  refine take_at (i := 2) (v := .int .u8 b0) 11 rfl rfl (by kernel_rfl) (by kernel_rfl) (by kernel_rfl) (fun _ _ _ h => h) (Or.inl ⟨by rfl, fun w' hS => by have hq := pw_cell_below hS X0.out; go_simp⟩) hHeld ?_
  try simp only [Act.put, List.setIfInBounds_toArray, List.set_cons_zero, List.set_cons_succ]
  refine take_at (i := 3) (v := .slice (some ad) 16 c) 12 rfl rfl (by kernel_rfl) (by kernel_rfl) (by kernel_rfl) (fun _ _ _ h => h) (Or.inl ⟨by rfl, fun w _ => by first | (go_simp; done) | (go_simp; with_reducible rfl) | rfl⟩) hHeld ?_
  try simp only [Act.put, List.setIfInBounds_toArray, List.set_cons_zero, List.set_cons_succ]
  refine take_at (i := 4) (v := .pointer (some ⟨ad.block, ad.off + 1, none⟩)) 13 rfl rfl (by kernel_rfl) (by kernel_rfl) (by kernel_rfl) (fun _ _ _ h => h) (Or.inl ⟨by rfl, fun w _ => by first | (go_simp; done) | (go_simp; with_reducible rfl) | rfl⟩) hHeld ?_
  try simp only [Act.put, List.setIfInBounds_toArray, List.set_cons_zero, List.set_cons_succ]
  refine take_at (i := 5) (v := .int .u8 b1) 14 rfl rfl (by kernel_rfl) (by kernel_rfl) (by kernel_rfl) (fun _ _ _ h => h) (Or.inl ⟨by rfl, fun w' hS => by have hq := pw_cell_below hS X1.out; go_simp⟩) hHeld ?_
  try simp only [Act.put, List.setIfInBounds_toArray, List.set_cons_zero, List.set_cons_succ]
  refine take_at (i := 6) (v := .slice (some ad) 16 c) 15 rfl rfl (by kernel_rfl) (by kernel_rfl) (by kernel_rfl) (fun _ _ _ h => h) (Or.inl ⟨by rfl, fun w _ => by first | (go_simp; done) | (go_simp; with_reducible rfl) | rfl⟩) hHeld ?_
  try simp only [Act.put, List.setIfInBounds_toArray, List.set_cons_zero, List.set_cons_succ]
  refine take_at (i := 7) (v := .pointer (some ⟨ad.block, ad.off + 2, none⟩)) 16 rfl rfl (by kernel_rfl) (by kernel_rfl) (by kernel_rfl) (fun _ _ _ h => h) (Or.inl ⟨by rfl, fun w _ => by first | (go_simp; done) | (go_simp; with_reducible rfl) | rfl⟩) hHeld ?_
  try simp only [Act.put, List.setIfInBounds_toArray, List.set_cons_zero, List.set_cons_succ]
  refine take_at (i := 8) (v := .int .u8 b2) 17 rfl rfl (by kernel_rfl) (by kernel_rfl) (by kernel_rfl) (fun _ _ _ h => h) (Or.inl ⟨by rfl, fun w' hS => by have hq := pw_cell_below hS X2.out; go_simp⟩) hHeld ?_
  try simp only [Act.put, List.setIfInBounds_toArray, List.set_cons_zero, List.set_cons_succ]
  refine take_at (i := 9) (v := .slice (some ad) 16 c) 18 rfl rfl (by kernel_rfl) (by kernel_rfl) (by kernel_rfl) (fun _ _ _ h => h) (Or.inl ⟨by rfl, fun w _ => by first | (go_simp; done) | (go_simp; with_reducible rfl) | rfl⟩) hHeld ?_
  try simp only [Act.put, List.setIfInBounds_toArray, List.set_cons_zero, List.set_cons_succ]
  refine take_at (i := 10) (v := .slice (some ⟨ad.block, ad.off + 4, none⟩) 4 (c - 4)) 19 rfl rfl (by kernel_rfl) (by kernel_rfl) (by kernel_rfl) (fun _ _ _ h => h) (Or.inl ⟨by rfl, fun w _ => by first | (go_simp; done) | (go_simp; with_reducible rfl) | rfl⟩) hHeld ?_
  try simp only [Act.put, List.setIfInBounds_toArray, List.set_cons_zero, List.set_cons_succ]
  refine take_at (i := 13) (v := .slice (some ad) 16 c) 22 rfl rfl (by kernel_rfl) (by kernel_rfl) (by kernel_rfl) (fun _ _ _ h => h) (Or.inl ⟨by rfl, fun w _ => by first | (go_simp; done) | (go_simp; with_reducible rfl) | rfl⟩) hHeld ?_
  try simp only [Act.put, List.setIfInBounds_toArray, List.set_cons_zero, List.set_cons_succ]
  refine take_at (i := 14) (v := .slice (some ⟨ad.block, ad.off + 8, none⟩) 8 (c - 8)) 23 rfl rfl (by kernel_rfl) (by kernel_rfl) (by kernel_rfl) (fun _ _ _ h => h) (Or.inl ⟨by rfl, fun w _ => by first | (go_simp; done) | (go_simp; with_reducible rfl) | rfl⟩) hHeld ?_
  try simp only [Act.put, List.setIfInBounds_toArray, List.set_cons_zero, List.set_cons_succ]
  refine wpAnyH_ready (rs := [11, 17]) (by kernel_rfl) (by simp) ?_
  refine AllReadyH.cons rfl (fun K hK => ?_) (AllReadyH.cons rfl (fun K hK => ?_) AllReadyH.nil)
  · skip
    go_simp
    go_wp2_with (first | (go_at_call 62; refine (HG1.out _ hHeld).mono ?_; rintro e9 w9 ⟨rfl, hb⟩; have HO9 := Aside0.mk (HO0.out.below hb); clear hb))
    clear hHeld
    refine hK.out _ _ (below_of_ob HO9.out) (fun hHeld => ?_)
    clear hK K
    try simp only [Act.put, List.setIfInBounds_toArray, List.set_cons_zero, List.set_cons_succ]
    refine take_at (i := 12) (v := .int .u32 (t1 % 4294967296)) 21 rfl rfl (by kernel_rfl) (by kernel_rfl) (by kernel_rfl) (fun _ _ _ h => h) (Or.inl ⟨by rfl, fun w _ => by first | (go_simp; done) | (go_simp; with_reducible rfl) | rfl⟩) hHeld ?_
    try simp only [Act.put, List.setIfInBounds_toArray, List.set_cons_zero, List.set_cons_succ]
    refine wpAnyH_ready (rs := [15, 17]) (by kernel_rfl) (by simp) ?_
    refine AllReadyH.cons rfl (fun K hK => ?_) (AllReadyH.cons rfl (fun K hK => ?_) AllReadyH.nil)
    · skip
      go_simp
      go_wp2_with (first | (go_at_call 62; refine (HG2.out _ hHeld).mono ?_; rintro e10 w10 ⟨rfl, hb⟩; have HO10 := Aside0.mk (HO9.out.below hb); clear hb))
      clear hHeld
      refine hK.out _ _ (below_of_ob HO10.out) (fun hHeld => ?_)
      clear hK K
      try simp only [Act.put, List.setIfInBounds_toArray, List.set_cons_zero, List.set_cons_succ]
      refine take_at (i := 16) (v := .agg (cReq b0 b1 b2 (t1 % 4294967296) t2)) 25 rfl rfl (by kernel_rfl) (by kernel_rfl) (by kernel_rfl) (fun _ _ _ h => h) (Or.inl ⟨by rfl, fun w _ => by first | (go_simp; done) | (go_simp; with_reducible rfl) | rfl⟩) hHeld ?_
      try simp only [Act.put, List.setIfInBounds_toArray, List.set_cons_zero, List.set_cons_succ]
      refine wpAnyH_ready (rs := [17]) (by kernel_rfl) (by simp) ?_
      refine AllReadyH.cons rfl (fun K hK => ?_) AllReadyH.nil
      · skip
        go_simp
        obtain ⟨g11, hg11⟩ : ∃ g, w10.heap.size = g := ⟨_, rfl⟩
        have HA11 : Aside0 (w.heap.size < w10.heap.size ∧ (w10.alloc (.cells (cReq 0 0 0 0 0) 55)).heap[w10.heap.size]? = some (.cells (cReq 0 0 0 0 0) 55 (0, 0))) := ⟨(Array.getElem?_eq_some_iff.1 HO10.out.2).1, heap_alloc_new _ _⟩
        have HO11 : Aside0 (OB w (w10.alloc (.cells (cReq 0 0 0 0 0) 55))) := ⟨HO10.out.below (below_alloc (Below.refl _ _) _)⟩
        rw [hg11] at HA11 ⊢
        clear hHeld hg11
        generalize w10.alloc (.cells (cReq 0 0 0 0 0) 55) = wA11 at HA11 HO11 ⊢
        refine hK.out _ _ (below_of_ob HO11.out) (fun hHeld => ?_)
        clear hK K
        try simp only [Act.put, List.setIfInBounds_toArray, List.set_cons_zero, List.set_cons_succ]
        refine wpAnyH_ready (rs := [18]) (by kernel_rfl) (by simp) ?_
        refine AllReadyH.cons rfl (fun K hK => ?_) AllReadyH.nil
        rw [if_pos (by rfl)]
        refine store_at rfl 55 (.tmp 4) (.tmp 25) rfl g11 0 (cReq b0 b1 b2 (t1 % 4294967296) t2) rfl rfl (there_of_block HA11.out.2 0 5 (by simp)) (by kernel_rfl) (by simp [Value.oneCell']) ?_
        have hbl : (wA11.setCells g11 0 (cReq b0 b1 b2 (t1 % 4294967296) t2).toList).heap[g11]? = some (.cells (cReq b0 b1 b2 (t1 % 4294967296) t2) 55 (0, 0)) := by rw [blk_setCells _ 0 _ _ HA11.out.2, setReq _ _ _ _ _ _ (by simp)]
        have HZ := Aside0.mk (And.intro (HO11.out.other HA11.out.1 (cReq b0 b1 b2 (t1 % 4294967296) t2).toList) hbl)
        clear hbl hHeld
        generalize wA11.setCells g11 0 (cReq b0 b1 b2 (t1 % 4294967296) t2).toList = wz at HZ ⊢
        generalize g11 = gz at HZ ⊢
        refine hK.out _ _ (below_of_ob HZ.out.1) (fun hHeld => ?_)
        clear hK K hHeld
        try simp only [Act.put, List.setIfInBounds_toArray, List.set_cons_zero, List.set_cons_succ]
        refine wpAnyH_done (by kernel_rfl) ?_ _
        have x3 := pw_cell_below HZ.out.1.1 X3.out
        obtain ⟨q0, q1, q2, q3, q4⟩ := req_cells HZ.out.2
        go_wp2_with (first | ((with_reducible refine gate_ (.load 55 (.tmp 4)) rfl ?_); refine load_blk rfl 55 (.tmp 4) rfl gz _ 55 rfl _ HC.out.2 Tryd.underlying55 rfl (by kernel_rfl) ?_) | ((with_reducible refine gate_ (.load 55 (.tmp 4)) rfl ?_); refine load_blk rfl 55 (.tmp 4) rfl gz _ 55 rfl _ HZ.out.2 Tryd.underlying55 rfl (by kernel_rfl) ?_) | (go_at_call 63; refine (rampartref03_Is.calls k b0 b1 b2 (t1 % 4294967296) t2 false _ HCK.out).mono ?_; rintro e9 w9 ⟨rfl, hb⟩; have HC := Aside0.mk (And.intro (HZ.out.1.below hb) (obj_below hb HZ.out.2)); clear hb) | ((with_reducible refine gate_store (p := 2) (t := 55) rfl ?_); refine store_blk rfl 55 (.tmp 2) (.tmp 35) rfl w.heap.size 0 (cReq 0 0 0 0 0) _ 55 rfl rfl HC.out.1.2 (by simp) (by kernel_rfl) (by simp [Value.oneCell']) ?_; intro wy ey hwy; have HY := Aside0.mk (HC.out.1.stored 0 0 0 0 0); rw [← show wy = _ from ey] at HY; clear ey hwy) | ((with_reducible refine gate_store (p := 2) (t := 55) rfl ?_); refine store_blk rfl 55 (.tmp 2) (.tmp 35) rfl w.heap.size 0 (cReq 0 0 0 0 0) _ 55 rfl rfl HZ.out.1.2 (by simp) (by kernel_rfl) (by simp [Value.oneCell']) ?_; intro wy ey hwy; have HY := Aside0.mk (HZ.out.1.stored 0 0 0 0 0); rw [← show wy = _ from ey] at HY; clear ey hwy))
        obtain ⟨hb, c1⟩ := HY.out
        clear x3 q0 q1 q2 q3 q4
        obtain ⟨z0, z1, z2, z3, z4⟩ := req_cells c1
        (try simp only [Exit.inBlock, Exit.then])
        refine bodyPost_ret (by simp [results, Tryd.results34, go_sem, z0, z1, z2, z3, z4]; try rfl) rfl ?_
        exact ⟨by first | rfl | simp, hb⟩
    · skip
      go_simp
      obtain ⟨g12, hg12⟩ : ∃ g, w9.heap.size = g := ⟨_, rfl⟩
      have HA12 : Aside0 (w.heap.size < w9.heap.size ∧ (w9.alloc (.cells (cReq 0 0 0 0 0) 55)).heap[w9.heap.size]? = some (.cells (cReq 0 0 0 0 0) 55 (0, 0))) := ⟨(Array.getElem?_eq_some_iff.1 HO9.out.2).1, heap_alloc_new _ _⟩
      have HO12 : Aside0 (OB w (w9.alloc (.cells (cReq 0 0 0 0 0) 55))) := ⟨HO9.out.below (below_alloc (Below.refl _ _) _)⟩
      rw [hg12] at HA12 ⊢
      clear hHeld hg12
      generalize w9.alloc (.cells (cReq 0 0 0 0 0) 55) = wA12 at HA12 HO12 ⊢
      refine hK.out _ _ (below_of_ob HO12.out) (fun hHeld => ?_)
      clear hK K
      try simp only [Act.put, List.setIfInBounds_toArray, List.set_cons_zero, List.set_cons_succ]
      refine wpAnyH_ready (rs := [15]) (by kernel_rfl) (by simp) ?_
      refine AllReadyH.cons rfl (fun K hK => ?_) AllReadyH.nil
      · skip
        go_simp
        go_wp2_with (first | (go_at_call 62; refine (HG2.out _ hHeld).mono ?_; rintro e13 w13 ⟨rfl, hb⟩; have HO13 := Aside0.mk (HO12.out.below hb); have HB13 : Aside0 (w.heap.size < g12 ∧ w13.heap[g12]? = some (.cells (cReq 0 0 0 0 0) 55 (0, 0))) := ⟨HA12.out.1, obj_below hb HA12.out.2⟩; clear hb))
        clear hHeld
        refine hK.out _ _ (below_of_ob HO13.out) (fun hHeld => ?_)
        clear hK K
        try simp only [Act.put, List.setIfInBounds_toArray, List.set_cons_zero, List.set_cons_succ]
        refine take_at (i := 16) (v := .agg (cReq b0 b1 b2 (t1 % 4294967296) t2)) 25 rfl rfl (by kernel_rfl) (by kernel_rfl) (by kernel_rfl) (fun _ _ _ h => h) (Or.inl ⟨by rfl, fun w _ => by first | (go_simp; done) | (go_simp; with_reducible rfl) | rfl⟩) hHeld ?_
        try simp only [Act.put, List.setIfInBounds_toArray, List.set_cons_zero, List.set_cons_succ]
        refine wpAnyH_ready (rs := [18]) (by kernel_rfl) (by simp) ?_
        refine AllReadyH.cons rfl (fun K hK => ?_) AllReadyH.nil
        rw [if_pos (by rfl)]
        refine store_at rfl 55 (.tmp 4) (.tmp 25) rfl g12 0 (cReq b0 b1 b2 (t1 % 4294967296) t2) rfl rfl (there_of_block HB13.out.2 0 5 (by simp)) (by kernel_rfl) (by simp [Value.oneCell']) ?_
        have hbl : (w13.setCells g12 0 (cReq b0 b1 b2 (t1 % 4294967296) t2).toList).heap[g12]? = some (.cells (cReq b0 b1 b2 (t1 % 4294967296) t2) 55 (0, 0)) := by rw [blk_setCells _ 0 _ _ HB13.out.2, setReq _ _ _ _ _ _ (by simp)]
        have HZ := Aside0.mk (And.intro (HO13.out.other HB13.out.1 (cReq b0 b1 b2 (t1 % 4294967296) t2).toList) hbl)
        clear hbl hHeld
        generalize w13.setCells g12 0 (cReq b0 b1 b2 (t1 % 4294967296) t2).toList = wz at HZ ⊢
        generalize g12 = gz at HZ ⊢
        refine hK.out _ _ (below_of_ob HZ.out.1) (fun hHeld => ?_)
        clear hK K hHeld
        try simp only [Act.put, List.setIfInBounds_toArray, List.set_cons_zero, List.set_cons_succ]
        refine wpAnyH_done (by kernel_rfl) ?_ _
        have x3 := pw_cell_below HZ.out.1.1 X3.out
        obtain ⟨q0, q1, q2, q3, q4⟩ := req_cells HZ.out.2
        go_wp2_with (first | ((with_reducible refine gate_ (.load 55 (.tmp 4)) rfl ?_); refine load_blk rfl 55 (.tmp 4) rfl gz _ 55 rfl _ HC.out.2 Tryd.underlying55 rfl (by kernel_rfl) ?_) | ((with_reducible refine gate_ (.load 55 (.tmp 4)) rfl ?_); refine load_blk rfl 55 (.tmp 4) rfl gz _ 55 rfl _ HZ.out.2 Tryd.underlying55 rfl (by kernel_rfl) ?_) | (go_at_call 63; refine (rampartref03_Is.calls k b0 b1 b2 (t1 % 4294967296) t2 false _ HCK.out).mono ?_; rintro e9 w9 ⟨rfl, hb⟩; have HC := Aside0.mk (And.intro (HZ.out.1.below hb) (obj_below hb HZ.out.2)); clear hb) | ((with_reducible refine gate_store (p := 2) (t := 55) rfl ?_); refine store_blk rfl 55 (.tmp 2) (.tmp 35) rfl w.heap.size 0 (cReq 0 0 0 0 0) _ 55 rfl rfl HC.out.1.2 (by simp) (by kernel_rfl) (by simp [Value.oneCell']) ?_; intro wy ey hwy; have HY := Aside0.mk (HC.out.1.stored 0 0 0 0 0); rw [← show wy = _ from ey] at HY; clear ey hwy) | ((with_reducible refine gate_store (p := 2) (t := 55) rfl ?_); refine store_blk rfl 55 (.tmp 2) (.tmp 35) rfl w.heap.size 0 (cReq 0 0 0 0 0) _ 55 rfl rfl HZ.out.1.2 (by simp) (by kernel_rfl) (by simp [Value.oneCell']) ?_; intro wy ey hwy; have HY := Aside0.mk (HZ.out.1.stored 0 0 0 0 0); rw [← show wy = _ from ey] at HY; clear ey hwy))
        obtain ⟨hb, c1⟩ := HY.out
        clear x3 q0 q1 q2 q3 q4
        obtain ⟨z0, z1, z2, z3, z4⟩ := req_cells c1
        (try simp only [Exit.inBlock, Exit.then])
        refine bodyPost_ret (by simp [results, Tryd.results34, go_sem, z0, z1, z2, z3, z4]; try rfl) rfl ?_
        exact ⟨by first | rfl | simp, hb⟩
  · skip
    go_simp
    obtain ⟨g14, hg14⟩ : ∃ g, w0.heap.size = g := ⟨_, rfl⟩
    have HA14 : Aside0 (w.heap.size < w0.heap.size ∧ (w0.alloc (.cells (cReq 0 0 0 0 0) 55)).heap[w0.heap.size]? = some (.cells (cReq 0 0 0 0 0) 55 (0, 0))) := ⟨(Array.getElem?_eq_some_iff.1 HO0.out.2).1, heap_alloc_new _ _⟩
    have HO14 : Aside0 (OB w (w0.alloc (.cells (cReq 0 0 0 0 0) 55))) := ⟨HO0.out.below (below_alloc (Below.refl _ _) _)⟩
    rw [hg14] at HA14 ⊢
    clear hHeld hg14
    generalize w0.alloc (.cells (cReq 0 0 0 0 0) 55) = wA14 at HA14 HO14 ⊢
    refine hK.out _ _ (below_of_ob HO14.out) (fun hHeld => ?_)
    clear hK K
    try simp only [Act.put, List.setIfInBounds_toArray, List.set_cons_zero, List.set_cons_succ]
    refine wpAnyH_ready (rs := [11]) (by kernel_rfl) (by simp) ?_
    refine AllReadyH.cons rfl (fun K hK => ?_) AllReadyH.nil
    · skip
      go_simp
      go_wp2_with (first | (go_at_call 62; refine (HG1.out _ hHeld).mono ?_; rintro e15 w15 ⟨rfl, hb⟩; have HO15 := Aside0.mk (HO14.out.below hb); have HB15 : Aside0 (w.heap.size < g14 ∧ w15.heap[g14]? = some (.cells (cReq 0 0 0 0 0) 55 (0, 0))) := ⟨HA14.out.1, obj_below hb HA14.out.2⟩; clear hb))
      clear hHeld
      refine hK.out _ _ (below_of_ob HO15.out) (fun hHeld => ?_)
      clear hK K
      try simp only [Act.put, List.setIfInBounds_toArray, List.set_cons_zero, List.set_cons_succ]
      refine take_at (i := 12) (v := .int .u32 (t1 % 4294967296)) 21 rfl rfl (by kernel_rfl) (by kernel_rfl) (by kernel_rfl) (fun _ _ _ h => h) (Or.inl ⟨by rfl, fun w _ => by first | (go_simp; done) | (go_simp; with_reducible rfl) | rfl⟩) hHeld ?_
      try simp only [Act.put, List.setIfInBounds_toArray, List.set_cons_zero, List.set_cons_succ]
      refine wpAnyH_ready (rs := [15]) (by kernel_rfl) (by simp) ?_
      refine AllReadyH.cons rfl (fun K hK => ?_) AllReadyH.nil
      · skip
        go_simp
        go_wp2_with (first | (go_at_call 62; refine (HG2.out _ hHeld).mono ?_; rintro e16 w16 ⟨rfl, hb⟩; have HO16 := Aside0.mk (HO15.out.below hb); have HB16 : Aside0 (w.heap.size < g14 ∧ w16.heap[g14]? = some (.cells (cReq 0 0 0 0 0) 55 (0, 0))) := ⟨HB15.out.1, obj_below hb HB15.out.2⟩; clear hb))
        clear hHeld
        refine hK.out _ _ (below_of_ob HO16.out) (fun hHeld => ?_)
        clear hK K
        try simp only [Act.put, List.setIfInBounds_toArray, List.set_cons_zero, List.set_cons_succ]
        refine take_at (i := 16) (v := .agg (cReq b0 b1 b2 (t1 % 4294967296) t2)) 25 rfl rfl (by kernel_rfl) (by kernel_rfl) (by kernel_rfl) (fun _ _ _ h => h) (Or.inl ⟨by rfl, fun w _ => by first | (go_simp; done) | (go_simp; with_reducible rfl) | rfl⟩) hHeld ?_
        try simp only [Act.put, List.setIfInBounds_toArray, List.set_cons_zero, List.set_cons_succ]
        refine wpAnyH_ready (rs := [18]) (by kernel_rfl) (by simp) ?_
        refine AllReadyH.cons rfl (fun K hK => ?_) AllReadyH.nil
        rw [if_pos (by rfl)]
        refine store_at rfl 55 (.tmp 4) (.tmp 25) rfl g14 0 (cReq b0 b1 b2 (t1 % 4294967296) t2) rfl rfl (there_of_block HB16.out.2 0 5 (by simp)) (by kernel_rfl) (by simp [Value.oneCell']) ?_
        have hbl : (w16.setCells g14 0 (cReq b0 b1 b2 (t1 % 4294967296) t2).toList).heap[g14]? = some (.cells (cReq b0 b1 b2 (t1 % 4294967296) t2) 55 (0, 0)) := by rw [blk_setCells _ 0 _ _ HB16.out.2, setReq _ _ _ _ _ _ (by simp)]
        have HZ := Aside0.mk (And.intro (HO16.out.other HB16.out.1 (cReq b0 b1 b2 (t1 % 4294967296) t2).toList) hbl)
        clear hbl hHeld
        generalize w16.setCells g14 0 (cReq b0 b1 b2 (t1 % 4294967296) t2).toList = wz at HZ ⊢
        generalize g14 = gz at HZ ⊢
        refine hK.out _ _ (below_of_ob HZ.out.1) (fun hHeld => ?_)
        clear hK K hHeld
        try simp only [Act.put, List.setIfInBounds_toArray, List.set_cons_zero, List.set_cons_succ]
        refine wpAnyH_done (by kernel_rfl) ?_ _
        have x3 := pw_cell_below HZ.out.1.1 X3.out
        obtain ⟨q0, q1, q2, q3, q4⟩ := req_cells HZ.out.2
        go_wp2_with (first | ((with_reducible refine gate_ (.load 55 (.tmp 4)) rfl ?_); refine load_blk rfl 55 (.tmp 4) rfl gz _ 55 rfl _ HC.out.2 Tryd.underlying55 rfl (by kernel_rfl) ?_) | ((with_reducible refine gate_ (.load 55 (.tmp 4)) rfl ?_); refine load_blk rfl 55 (.tmp 4) rfl gz _ 55 rfl _ HZ.out.2 Tryd.underlying55 rfl (by kernel_rfl) ?_) | (go_at_call 63; refine (rampartref03_Is.calls k b0 b1 b2 (t1 % 4294967296) t2 false _ HCK.out).mono ?_; rintro e9 w9 ⟨rfl, hb⟩; have HC := Aside0.mk (And.intro (HZ.out.1.below hb) (obj_below hb HZ.out.2)); clear hb) | ((with_reducible refine gate_store (p := 2) (t := 55) rfl ?_); refine store_blk rfl 55 (.tmp 2) (.tmp 35) rfl w.heap.size 0 (cReq 0 0 0 0 0) _ 55 rfl rfl HC.out.1.2 (by simp) (by kernel_rfl) (by simp [Value.oneCell']) ?_; intro wy ey hwy; have HY := Aside0.mk (HC.out.1.stored 0 0 0 0 0); rw [← show wy = _ from ey] at HY; clear ey hwy) | ((with_reducible refine gate_store (p := 2) (t := 55) rfl ?_); refine store_blk rfl 55 (.tmp 2) (.tmp 35) rfl w.heap.size 0 (cReq 0 0 0 0 0) _ 55 rfl rfl HZ.out.1.2 (by simp) (by kernel_rfl) (by simp [Value.oneCell']) ?_; intro wy ey hwy; have HY := Aside0.mk (HZ.out.1.stored 0 0 0 0 0); rw [← show wy = _ from ey] at HY; clear ey hwy))
        obtain ⟨hb, c1⟩ := HY.out
        clear x3 q0 q1 q2 q3 q4
        obtain ⟨z0, z1, z2, z3, z4⟩ := req_cells c1
        (try simp only [Exit.inBlock, Exit.then])
        refine bodyPost_ret (by simp [results, Tryd.results34, go_sem, z0, z1, z2, z3, z4]; try rfl) rfl ?_
        exact ⟨by first | rfl | simp, hb⟩

set_option maxRecDepth 100000 in
set_option maxHeartbeats 4000000 in
theorem RParse_three (k : Nat) (ad : Addr) (c : Nat) (l : List Int) (w : World) (hc : 16 ≤ c) (h16 : l.length = 16) (hr : Kd.C (Kd.int .u8) w (some ad) 16 l) (b0 b1 b2 b3 : Int) (hb0 : rd l 0 = b0) (hb1 : rd l 1 = b1) (hb2 : rd l 2 = b2) (hb3 : rd l 3 = b3) (t1 t2 : Int) (h1 : rampartref03_number.f k ((l.take 8).drop 4) = some t1) (h2 : rampartref03_number.f k (l.drop 8) = some t2) (hz : b3 ≠ 0) :
    Calls Tryd.prog 34 #[.slice (some ad) 16 c] w fun e' w' => e' = .returned (.tuple #[.agg (cReq 0 0 0 0 0), .int .i64 30]) ∧ Below w.heap.size w w' := by
  have hd : (b3 != 0) = true := bne_iff_ne.mpr hz
  have hd2 : (b3 == 0) = false := beq_false_of_ne hz
  clear hz
  have hc4 : ¬ c = 4 := by omega
  have hc8 : ¬ c = 8 := by omega
  have hcc : 8 ≤ c := by omega
  have hcc4 : (8 : Int) ≤ (c : Int) := by omega
  have hcc6 : (16 : Int) ≤ (c : Int) := by omega
  have HG1 : Aside0 (∀ w', Below w.heap.size w w' → Calls Tryd.prog 62 #[.slice (some ⟨ad.block, ad.off + 4, none⟩) 4 (c - 4)] w' fun e w'' => e = .returned (.int .u64 t1) ∧ Below w'.heap.size w' w'') := ⟨fun w' hb => by
    have e : (l.take 8).drop 4 = (l.drop 4).take 4 := by rw [List.drop_take]
    have hl : ((l.take 8).drop 4).length = 4 := by rw [List.length_drop, List.length_take]; omega
    have := rampartref03_number.calls k (some (ad.add 4)) (c - 4) ((l.take 8).drop 4) t1 w' (by rw [hl, e]; exact C_sub (Kd.C_below hr hb) 4 4 (by omega)) (by omega) h1
    rw [hl] at this
    exact this.mono fun e w'' h => ⟨h.1, drawn_below h.2⟩⟩
  have HG2 : Aside0 (∀ w', Below w.heap.size w w' → Calls Tryd.prog 62 #[.slice (some ⟨ad.block, ad.off + 8, none⟩) 8 (c - 8)] w' fun e w'' => e = .returned (.int .u64 t2) ∧ Below w'.heap.size w' w'') := ⟨fun w' hb => by
    have hl : (l.drop 8).length = 8 := by rw [List.length_drop]; omega
    have e : (l.drop 8).take 8 = l.drop 8 := List.take_of_length_le (by omega)
    have := rampartref03_number.calls k (some (ad.add 8)) (c - 8) (l.drop 8) t2 w' (by rw [hl]; have := C_sub (Kd.C_below hr hb) 8 8 (by omega); rw [e] at this; exact this) (by omega) h2
    rw [hl] at this
    exact this.mono fun e w'' h => ⟨h.1, drawn_below h.2⟩⟩
  obtain ⟨a0, e0, x0⟩ := Kd.at_int hr 0 (by omega) (by omega)
  obtain ⟨a1, e1, x1⟩ := Kd.at_int hr 1 (by omega) (by omega)
  obtain ⟨a2, e2, x2⟩ := Kd.at_int hr 2 (by omega) (by omega)
  obtain ⟨a3, e3, x3⟩ := Kd.at_int hr 3 (by omega) (by omega)
  injection e0 with e0
  injection e1 with e1
  injection e2 with e2
  injection e3 with e3
  subst e0 e1 e2 e3
  rw [hb0] at x0
  rw [hb1] at x1
  rw [hb2] at x2
  rw [hb3] at x3
  have X0 : Aside0 (w.cell? ad = some (.int .u8 b0)) := ⟨by rw [show (0 : Int).toNat = 0 from rfl, Addr.add_zero'] at x0; exact x0⟩
  have X1 : Aside0 (w.cell? ⟨ad.block, ad.off + 1, none⟩ = some (.int .u8 b1)) := ⟨x1⟩
  have X2 : Aside0 (w.cell? ⟨ad.block, ad.off + 2, none⟩ = some (.int .u8 b2)) := ⟨x2⟩
  have X3 : Aside0 (w.cell? ⟨ad.block, ad.off + 3, none⟩ = some (.int .u8 b3)) := ⟨x3⟩
  clear hr x0 x1 x2 x3 h1 h2 hb0 hb1 hb2 hb3
  go_enter Tryd.func34, Tryd.ntmps34
  go_upto_region 3 with fail
  change Code.wp Tryd.prog _ _ _ (w.alloc (.cells (cReq 0 0 0 0 0) 55))
  have HO0 : Aside0 (OB w (w.alloc (.cells (cReq 0 0 0 0 0) 55)).drew) := ⟨(OB.start w).below (pw_below_drewN (Below.refl _ _) 1)⟩
  refine wp_region_held_drew (S := fun w' => Below w.heap.size w w') (by kernel_rfl) HO0.out.1 (fun hHeld => ?_)
  generalize (w.alloc (.cells (cReq 0 0 0 0 0) 55)).drew = w0 at HO0 hHeld ⊢
  refine take_at (i := 0) (v := .slice (some ad) 16 c) 9 rfl rfl (by kernel_rfl) (by kernel_rfl) (by kernel_rfl) (fun _ _ _ h => h) (Or.inl ⟨by rfl, fun w _ => by first | (go_simp; done) | (go_simp; with_reducible rfl) | rfl⟩) hHeld ?_
  try simp only [Act.put, List.setIfInBounds_toArray, List.set_cons_zero, List.set_cons_succ]
  refine take_at (i := 1) (v := .pointer (some ad)) 10 rfl rfl (by kernel_rfl) (by kernel_rfl) (by kernel_rfl) (fun _ _ _ h => h) (Or.inl ⟨by rfl, fun w _ => by first | (go_simp; done) | (go_simp; with_reducible rfl) | rfl⟩) hHeld ?_
  try simp only [Act.put, List.setIfInBounds_toArray, List.set_cons_zero, List.set_cons_succ]
  refine take_at (i := 2) (v := .int .u8 b0) 11 rfl rfl (by kernel_rfl) (by kernel_rfl) (by kernel_rfl) (fun _ _ _ h => h) (Or.inl ⟨by rfl, fun w' hS => by have hq := pw_cell_below hS X0.out; go_simp⟩) hHeld ?_
  try simp only [Act.put, List.setIfInBounds_toArray, List.set_cons_zero, List.set_cons_succ]
  refine take_at (i := 3) (v := .slice (some ad) 16 c) 12 rfl rfl (by kernel_rfl) (by kernel_rfl) (by kernel_rfl) (fun _ _ _ h => h) (Or.inl ⟨by rfl, fun w _ => by first | (go_simp; done) | (go_simp; with_reducible rfl) | rfl⟩) hHeld ?_
  try simp only [Act.put, List.setIfInBounds_toArray, List.set_cons_zero, List.set_cons_succ]
  refine take_at (i := 4) (v := .pointer (some ⟨ad.block, ad.off + 1, none⟩)) 13 rfl rfl (by kernel_rfl) (by kernel_rfl) (by kernel_rfl) (fun _ _ _ h => h) (Or.inl ⟨by rfl, fun w _ => by first | (go_simp; done) | (go_simp; with_reducible rfl) | rfl⟩) hHeld ?_
  try simp only [Act.put, List.setIfInBounds_toArray, List.set_cons_zero, List.set_cons_succ]
  refine take_at (i := 5) (v := .int .u8 b1) 14 rfl rfl (by kernel_rfl) (by kernel_rfl) (by kernel_rfl) (fun _ _ _ h => h) (Or.inl ⟨by rfl, fun w' hS => by have hq := pw_cell_below hS X1.out; go_simp⟩) hHeld ?_
  try simp only [Act.put, List.setIfInBounds_toArray, List.set_cons_zero, List.set_cons_succ]
  refine take_at (i := 6) (v := .slice (some ad) 16 c) 15 rfl rfl (by kernel_rfl) (by kernel_rfl) (by kernel_rfl) (fun _ _ _ h => h) (Or.inl ⟨by rfl, fun w _ => by first | (go_simp; done) | (go_simp; with_reducible rfl) | rfl⟩) hHeld ?_
  try simp only [Act.put, List.setIfInBounds_toArray, List.set_cons_zero, List.set_cons_succ]
  refine take_at (i := 7) (v := .pointer (some ⟨ad.block, ad.off + 2, none⟩)) 16 rfl rfl (by kernel_rfl) (by kernel_rfl) (by kernel_rfl) (fun _ _ _ h => h) (Or.inl ⟨by rfl, fun w _ => by first | (go_simp; done) | (go_simp; with_reducible rfl) | rfl⟩) hHeld ?_
  try simp only [Act.put, List.setIfInBounds_toArray, List.set_cons_zero, List.set_cons_succ]
  refine take_at (i := 8) (v := .int .u8 b2) 17 rfl rfl (by kernel_rfl) (by kernel_rfl) (by kernel_rfl) (fun _ _ _ h => h) (Or.inl ⟨by rfl, fun w' hS => by have hq := pw_cell_below hS X2.out; go_simp⟩) hHeld ?_
  try simp only [Act.put, List.setIfInBounds_toArray, List.set_cons_zero, List.set_cons_succ]
  refine take_at (i := 9) (v := .slice (some ad) 16 c) 18 rfl rfl (by kernel_rfl) (by kernel_rfl) (by kernel_rfl) (fun _ _ _ h => h) (Or.inl ⟨by rfl, fun w _ => by first | (go_simp; done) | (go_simp; with_reducible rfl) | rfl⟩) hHeld ?_
  try simp only [Act.put, List.setIfInBounds_toArray, List.set_cons_zero, List.set_cons_succ]
  refine take_at (i := 10) (v := .slice (some ⟨ad.block, ad.off + 4, none⟩) 4 (c - 4)) 19 rfl rfl (by kernel_rfl) (by kernel_rfl) (by kernel_rfl) (fun _ _ _ h => h) (Or.inl ⟨by rfl, fun w _ => by first | (go_simp; done) | (go_simp; with_reducible rfl) | rfl⟩) hHeld ?_
  try simp only [Act.put, List.setIfInBounds_toArray, List.set_cons_zero, List.set_cons_succ]
  refine take_at (i := 13) (v := .slice (some ad) 16 c) 22 rfl rfl (by kernel_rfl) (by kernel_rfl) (by kernel_rfl) (fun _ _ _ h => h) (Or.inl ⟨by rfl, fun w _ => by first | (go_simp; done) | (go_simp; with_reducible rfl) | rfl⟩) hHeld ?_
  try simp only [Act.put, List.setIfInBounds_toArray, List.set_cons_zero, List.set_cons_succ]
  refine take_at (i := 14) (v := .slice (some ⟨ad.block, ad.off + 8, none⟩) 8 (c - 8)) 23 rfl rfl (by kernel_rfl) (by kernel_rfl) (by kernel_rfl) (fun _ _ _ h => h) (Or.inl ⟨by rfl, fun w _ => by first | (go_simp; done) | (go_simp; with_reducible rfl) | rfl⟩) hHeld ?_
  try simp only [Act.put, List.setIfInBounds_toArray, List.set_cons_zero, List.set_cons_succ]
  refine wpAnyH_ready (rs := [11, 17]) (by kernel_rfl) (by simp) ?_
  refine AllReadyH.cons rfl (fun K hK => ?_) (AllReadyH.cons rfl (fun K hK => ?_) AllReadyH.nil)
  · skip
    go_simp
    go_wp2_with (first | (go_at_call 62; refine (HG1.out _ hHeld).mono ?_; rintro e17 w17 ⟨rfl, hb⟩; have HO17 := Aside0.mk (HO0.out.below hb); clear hb))
    clear hHeld
    refine hK.out _ _ (below_of_ob HO17.out) (fun hHeld => ?_)
    clear hK K
    try simp only [Act.put, List.setIfInBounds_toArray, List.set_cons_zero, List.set_cons_succ]
    refine take_at (i := 12) (v := .int .u32 (t1 % 4294967296)) 21 rfl rfl (by kernel_rfl) (by kernel_rfl) (by kernel_rfl) (fun _ _ _ h => h) (Or.inl ⟨by rfl, fun w _ => by first | (go_simp; done) | (go_simp; with_reducible rfl) | rfl⟩) hHeld ?_
    try simp only [Act.put, List.setIfInBounds_toArray, List.set_cons_zero, List.set_cons_succ]
    refine wpAnyH_ready (rs := [15, 17]) (by kernel_rfl) (by simp) ?_
    refine AllReadyH.cons rfl (fun K hK => ?_) (AllReadyH.cons rfl (fun K hK => ?_) AllReadyH.nil)
    · skip
      go_simp
      go_wp2_with (first | (go_at_call 62; refine (HG2.out _ hHeld).mono ?_; rintro e18 w18 ⟨rfl, hb⟩; have HO18 := Aside0.mk (HO17.out.below hb); clear hb))
      clear hHeld
      refine hK.out _ _ (below_of_ob HO18.out) (fun hHeld => ?_)
      clear hK K
      try simp only [Act.put, List.setIfInBounds_toArray, List.set_cons_zero, List.set_cons_succ]
      refine take_at (i := 16) (v := .agg (cReq b0 b1 b2 (t1 % 4294967296) t2)) 25 rfl rfl (by kernel_rfl) (by kernel_rfl) (by kernel_rfl) (fun _ _ _ h => h) (Or.inl ⟨by rfl, fun w _ => by first | (go_simp; done) | (go_simp; with_reducible rfl) | rfl⟩) hHeld ?_
      try simp only [Act.put, List.setIfInBounds_toArray, List.set_cons_zero, List.set_cons_succ]
      refine wpAnyH_ready (rs := [17]) (by kernel_rfl) (by simp) ?_
      refine AllReadyH.cons rfl (fun K hK => ?_) AllReadyH.nil
      · skip
        go_simp
        obtain ⟨g19, hg19⟩ : ∃ g, w18.heap.size = g := ⟨_, rfl⟩
        have HA19 : Aside0 (w.heap.size < w18.heap.size ∧ (w18.alloc (.cells (cReq 0 0 0 0 0) 55)).heap[w18.heap.size]? = some (.cells (cReq 0 0 0 0 0) 55 (0, 0))) := ⟨(Array.getElem?_eq_some_iff.1 HO18.out.2).1, heap_alloc_new _ _⟩
        have HO19 : Aside0 (OB w (w18.alloc (.cells (cReq 0 0 0 0 0) 55))) := ⟨HO18.out.below (below_alloc (Below.refl _ _) _)⟩
        rw [hg19] at HA19 ⊢
        clear hHeld hg19
        generalize w18.alloc (.cells (cReq 0 0 0 0 0) 55) = wA19 at HA19 HO19 ⊢
        refine hK.out _ _ (below_of_ob HO19.out) (fun hHeld => ?_)
        clear hK K
        try simp only [Act.put, List.setIfInBounds_toArray, List.set_cons_zero, List.set_cons_succ]
        refine wpAnyH_ready (rs := [18]) (by kernel_rfl) (by simp) ?_
        refine AllReadyH.cons rfl (fun K hK => ?_) AllReadyH.nil
        rw [if_pos (by rfl)]
        refine store_at rfl 55 (.tmp 4) (.tmp 25) rfl g19 0 (cReq b0 b1 b2 (t1 % 4294967296) t2) rfl rfl (there_of_block HA19.out.2 0 5 (by simp)) (by kernel_rfl) (by simp [Value.oneCell']) ?_
        have hbl : (wA19.setCells g19 0 (cReq b0 b1 b2 (t1 % 4294967296) t2).toList).heap[g19]? = some (.cells (cReq b0 b1 b2 (t1 % 4294967296) t2) 55 (0, 0)) := by rw [blk_setCells _ 0 _ _ HA19.out.2, setReq _ _ _ _ _ _ (by simp)]
        have HZ := Aside0.mk (And.intro (HO19.out.other HA19.out.1 (cReq b0 b1 b2 (t1 % 4294967296) t2).toList) hbl)
        clear hbl hHeld
        generalize wA19.setCells g19 0 (cReq b0 b1 b2 (t1 % 4294967296) t2).toList = wz at HZ ⊢
        generalize g19 = gz at HZ ⊢
        refine hK.out _ _ (below_of_ob HZ.out.1) (fun hHeld => ?_)
        clear hK K hHeld
        try simp only [Act.put, List.setIfInBounds_toArray, List.set_cons_zero, List.set_cons_succ]
        refine wpAnyH_done (by kernel_rfl) ?_ _
        have x3 := pw_cell_below HZ.out.1.1 X3.out
        obtain ⟨q0, q1, q2, q3, q4⟩ := req_cells HZ.out.2
        go_wp2_with (first | ((with_reducible refine gate_ (.load 55 (.tmp 4)) rfl ?_); refine load_blk rfl 55 (.tmp 4) rfl gz _ 55 rfl _ HC.out.2 Tryd.underlying55 rfl (by kernel_rfl) ?_) | ((with_reducible refine gate_ (.load 55 (.tmp 4)) rfl ?_); refine load_blk rfl 55 (.tmp 4) rfl gz _ 55 rfl _ HZ.out.2 Tryd.underlying55 rfl (by kernel_rfl) ?_) | (go_at_call 63; refine (rampartref03_Is.calls k b0 b1 b2 (t1 % 4294967296) t2 true _ HCK.out).mono ?_; rintro e9 w9 ⟨rfl, hb⟩; have HC := Aside0.mk (And.intro (HZ.out.1.below hb) (obj_below hb HZ.out.2)); clear hb) | ((with_reducible refine gate_store (p := 2) (t := 55) rfl ?_); refine store_blk rfl 55 (.tmp 2) (.tmp 35) rfl w.heap.size 0 (cReq 0 0 0 0 0) _ 55 rfl rfl HC.out.1.2 (by simp) (by kernel_rfl) (by simp [Value.oneCell']) ?_; intro wy ey hwy; have HY := Aside0.mk (HC.out.1.stored 0 0 0 0 0); rw [← show wy = _ from ey] at HY; clear ey hwy) | ((with_reducible refine gate_store (p := 2) (t := 55) rfl ?_); refine store_blk rfl 55 (.tmp 2) (.tmp 35) rfl w.heap.size 0 (cReq 0 0 0 0 0) _ 55 rfl rfl HZ.out.1.2 (by simp) (by kernel_rfl) (by simp [Value.oneCell']) ?_; intro wy ey hwy; have HY := Aside0.mk (HZ.out.1.stored 0 0 0 0 0); rw [← show wy = _ from ey] at HY; clear ey hwy))
        obtain ⟨hb, c1⟩ := HY.out
        clear x3 q0 q1 q2 q3 q4
        obtain ⟨z0, z1, z2, z3, z4⟩ := req_cells c1
        (try simp only [Exit.inBlock, Exit.then])
        refine bodyPost_ret (by simp [results, Tryd.results34, go_sem, z0, z1, z2, z3, z4]; try rfl) rfl ?_
        exact ⟨by first | rfl | simp, hb⟩
    · skip
      go_simp
      obtain ⟨g20, hg20⟩ : ∃ g, w17.heap.size = g := ⟨_, rfl⟩
      have HA20 : Aside0 (w.heap.size < w17.heap.size ∧ (w17.alloc (.cells (cReq 0 0 0 0 0) 55)).heap[w17.heap.size]? = some (.cells (cReq 0 0 0 0 0) 55 (0, 0))) := ⟨(Array.getElem?_eq_some_iff.1 HO17.out.2).1, heap_alloc_new _ _⟩
      have HO20 : Aside0 (OB w (w17.alloc (.cells (cReq 0 0 0 0 0) 55))) := ⟨HO17.out.below (below_alloc (Below.refl _ _) _)⟩
      rw [hg20] at HA20 ⊢
      clear hHeld hg20
      generalize w17.alloc (.cells (cReq 0 0 0 0 0) 55) = wA20 at HA20 HO20 ⊢
      refine hK.out _ _ (below_of_ob HO20.out) (fun hHeld => ?_)
      clear hK K
      try simp only [Act.put, List.setIfInBounds_toArray, List.set_cons_zero, List.set_cons_succ]
      refine wpAnyH_ready (rs := [15]) (by kernel_rfl) (by simp) ?_
      refine AllReadyH.cons rfl (fun K hK => ?_) AllReadyH.nil
      · skip
        go_simp
        go_wp2_with (first | (go_at_call 62; refine (HG2.out _ hHeld).mono ?_; rintro e21 w21 ⟨rfl, hb⟩; have HO21 := Aside0.mk (HO20.out.below hb); have HB21 : Aside0 (w.heap.size < g20 ∧ w21.heap[g20]? = some (.cells (cReq 0 0 0 0 0) 55 (0, 0))) := ⟨HA20.out.1, obj_below hb HA20.out.2⟩; clear hb))
        clear hHeld
        refine hK.out _ _ (below_of_ob HO21.out) (fun hHeld => ?_)
        clear hK K
        try simp only [Act.put, List.setIfInBounds_toArray, List.set_cons_zero, List.set_cons_succ]
        refine take_at (i := 16) (v := .agg (cReq b0 b1 b2 (t1 % 4294967296) t2)) 25 rfl rfl (by kernel_rfl) (by kernel_rfl) (by kernel_rfl) (fun _ _ _ h => h) (Or.inl ⟨by rfl, fun w _ => by first | (go_simp; done) | (go_simp; with_reducible rfl) | rfl⟩) hHeld ?_
        try simp only [Act.put, List.setIfInBounds_toArray, List.set_cons_zero, List.set_cons_succ]
        refine wpAnyH_ready (rs := [18]) (by kernel_rfl) (by simp) ?_
        refine AllReadyH.cons rfl (fun K hK => ?_) AllReadyH.nil
        rw [if_pos (by rfl)]
        refine store_at rfl 55 (.tmp 4) (.tmp 25) rfl g20 0 (cReq b0 b1 b2 (t1 % 4294967296) t2) rfl rfl (there_of_block HB21.out.2 0 5 (by simp)) (by kernel_rfl) (by simp [Value.oneCell']) ?_
        have hbl : (w21.setCells g20 0 (cReq b0 b1 b2 (t1 % 4294967296) t2).toList).heap[g20]? = some (.cells (cReq b0 b1 b2 (t1 % 4294967296) t2) 55 (0, 0)) := by rw [blk_setCells _ 0 _ _ HB21.out.2, setReq _ _ _ _ _ _ (by simp)]
        have HZ := Aside0.mk (And.intro (HO21.out.other HB21.out.1 (cReq b0 b1 b2 (t1 % 4294967296) t2).toList) hbl)
        clear hbl hHeld
        generalize w21.setCells g20 0 (cReq b0 b1 b2 (t1 % 4294967296) t2).toList = wz at HZ ⊢
        generalize g20 = gz at HZ ⊢
        refine hK.out _ _ (below_of_ob HZ.out.1) (fun hHeld => ?_)
        clear hK K hHeld
        try simp only [Act.put, List.setIfInBounds_toArray, List.set_cons_zero, List.set_cons_succ]
        refine wpAnyH_done (by kernel_rfl) ?_ _
        have x3 := pw_cell_below HZ.out.1.1 X3.out
        obtain ⟨q0, q1, q2, q3, q4⟩ := req_cells HZ.out.2
        go_wp2_with (first | ((with_reducible refine gate_ (.load 55 (.tmp 4)) rfl ?_); refine load_blk rfl 55 (.tmp 4) rfl gz _ 55 rfl _ HC.out.2 Tryd.underlying55 rfl (by kernel_rfl) ?_) | ((with_reducible refine gate_ (.load 55 (.tmp 4)) rfl ?_); refine load_blk rfl 55 (.tmp 4) rfl gz _ 55 rfl _ HZ.out.2 Tryd.underlying55 rfl (by kernel_rfl) ?_) | (go_at_call 63; refine (rampartref03_Is.calls k b0 b1 b2 (t1 % 4294967296) t2 true _ HCK.out).mono ?_; rintro e9 w9 ⟨rfl, hb⟩; have HC := Aside0.mk (And.intro (HZ.out.1.below hb) (obj_below hb HZ.out.2)); clear hb) | ((with_reducible refine gate_store (p := 2) (t := 55) rfl ?_); refine store_blk rfl 55 (.tmp 2) (.tmp 35) rfl w.heap.size 0 (cReq 0 0 0 0 0) _ 55 rfl rfl HC.out.1.2 (by simp) (by kernel_rfl) (by simp [Value.oneCell']) ?_; intro wy ey hwy; have HY := Aside0.mk (HC.out.1.stored 0 0 0 0 0); rw [← show wy = _ from ey] at HY; clear ey hwy) | ((with_reducible refine gate_store (p := 2) (t := 55) rfl ?_); refine store_blk rfl 55 (.tmp 2) (.tmp 35) rfl w.heap.size 0 (cReq 0 0 0 0 0) _ 55 rfl rfl HZ.out.1.2 (by simp) (by kernel_rfl) (by simp [Value.oneCell']) ?_; intro wy ey hwy; have HY := Aside0.mk (HZ.out.1.stored 0 0 0 0 0); rw [← show wy = _ from ey] at HY; clear ey hwy))
        obtain ⟨hb, c1⟩ := HY.out
        clear x3 q0 q1 q2 q3 q4
        obtain ⟨z0, z1, z2, z3, z4⟩ := req_cells c1
        (try simp only [Exit.inBlock, Exit.then])
        refine bodyPost_ret (by simp [results, Tryd.results34, go_sem, z0, z1, z2, z3, z4]; try rfl) rfl ?_
        exact ⟨by first | rfl | simp, hb⟩
  · skip
    go_simp
    obtain ⟨g22, hg22⟩ : ∃ g, w0.heap.size = g := ⟨_, rfl⟩
    have HA22 : Aside0 (w.heap.size < w0.heap.size ∧ (w0.alloc (.cells (cReq 0 0 0 0 0) 55)).heap[w0.heap.size]? = some (.cells (cReq 0 0 0 0 0) 55 (0, 0))) := ⟨(Array.getElem?_eq_some_iff.1 HO0.out.2).1, heap_alloc_new _ _⟩
    have HO22 : Aside0 (OB w (w0.alloc (.cells (cReq 0 0 0 0 0) 55))) := ⟨HO0.out.below (below_alloc (Below.refl _ _) _)⟩
    rw [hg22] at HA22 ⊢
    clear hHeld hg22
    generalize w0.alloc (.cells (cReq 0 0 0 0 0) 55) = wA22 at HA22 HO22 ⊢
    refine hK.out _ _ (below_of_ob HO22.out) (fun hHeld => ?_)
    clear hK K
    try simp only [Act.put, List.setIfInBounds_toArray, List.set_cons_zero, List.set_cons_succ]
    refine wpAnyH_ready (rs := [11]) (by kernel_rfl) (by simp) ?_
    refine AllReadyH.cons rfl (fun K hK => ?_) AllReadyH.nil
    · skip
      go_simp
      go_wp2_with (first | (go_at_call 62; refine (HG1.out _ hHeld).mono ?_; rintro e23 w23 ⟨rfl, hb⟩; have HO23 := Aside0.mk (HO22.out.below hb); have HB23 : Aside0 (w.heap.size < g22 ∧ w23.heap[g22]? = some (.cells (cReq 0 0 0 0 0) 55 (0, 0))) := ⟨HA22.out.1, obj_below hb HA22.out.2⟩; clear hb))
      clear hHeld
      refine hK.out _ _ (below_of_ob HO23.out) (fun hHeld => ?_)
      clear hK K
      try simp only [Act.put, List.setIfInBounds_toArray, List.set_cons_zero, List.set_cons_succ]
      refine take_at (i := 12) (v := .int .u32 (t1 % 4294967296)) 21 rfl rfl (by kernel_rfl) (by kernel_rfl) (by kernel_rfl) (fun _ _ _ h => h) (Or.inl ⟨by rfl, fun w _ => by first | (go_simp; done) | (go_simp; with_reducible rfl) | rfl⟩) hHeld ?_
      try simp only [Act.put, List.setIfInBounds_toArray, List.set_cons_zero, List.set_cons_succ]
      refine wpAnyH_ready (rs := [15]) (by kernel_rfl) (by simp) ?_
      refine AllReadyH.cons rfl (fun K hK => ?_) AllReadyH.nil
      · skip
        go_simp
        go_wp2_with (first | (go_at_call 62; refine (HG2.out _ hHeld).mono ?_; rintro e24 w24 ⟨rfl, hb⟩; have HO24 := Aside0.mk (HO23.out.below hb); have HB24 : Aside0 (w.heap.size < g22 ∧ w24.heap[g22]? = some (.cells (cReq 0 0 0 0 0) 55 (0, 0))) := ⟨HB23.out.1, obj_below hb HB23.out.2⟩; clear hb))
        clear hHeld
        refine hK.out _ _ (below_of_ob HO24.out) (fun hHeld => ?_)
        clear hK K
        try simp only [Act.put, List.setIfInBounds_toArray, List.set_cons_zero, List.set_cons_succ]
        refine take_at (i := 16) (v := .agg (cReq b0 b1 b2 (t1 % 4294967296) t2)) 25 rfl rfl (by kernel_rfl) (by kernel_rfl) (by kernel_rfl) (fun _ _ _ h => h) (Or.inl ⟨by rfl, fun w _ => by first | (go_simp; done) | (go_simp; with_reducible rfl) | rfl⟩) hHeld ?_
        try simp only [Act.put, List.setIfInBounds_toArray, List.set_cons_zero, List.set_cons_succ]
        refine wpAnyH_ready (rs := [18]) (by kernel_rfl) (by simp) ?_
        refine AllReadyH.cons rfl (fun K hK => ?_) AllReadyH.nil
        rw [if_pos (by rfl)]
        refine store_at rfl 55 (.tmp 4) (.tmp 25) rfl g22 0 (cReq b0 b1 b2 (t1 % 4294967296) t2) rfl rfl (there_of_block HB24.out.2 0 5 (by simp)) (by kernel_rfl) (by simp [Value.oneCell']) ?_
        have hbl : (w24.setCells g22 0 (cReq b0 b1 b2 (t1 % 4294967296) t2).toList).heap[g22]? = some (.cells (cReq b0 b1 b2 (t1 % 4294967296) t2) 55 (0, 0)) := by rw [blk_setCells _ 0 _ _ HB24.out.2, setReq _ _ _ _ _ _ (by simp)]
        have HZ := Aside0.mk (And.intro (HO24.out.other HB24.out.1 (cReq b0 b1 b2 (t1 % 4294967296) t2).toList) hbl)
        clear hbl hHeld
        generalize w24.setCells g22 0 (cReq b0 b1 b2 (t1 % 4294967296) t2).toList = wz at HZ ⊢
        generalize g22 = gz at HZ ⊢
        refine hK.out _ _ (below_of_ob HZ.out.1) (fun hHeld => ?_)
        clear hK K hHeld
        try simp only [Act.put, List.setIfInBounds_toArray, List.set_cons_zero, List.set_cons_succ]
        refine wpAnyH_done (by kernel_rfl) ?_ _
        have x3 := pw_cell_below HZ.out.1.1 X3.out
        obtain ⟨q0, q1, q2, q3, q4⟩ := req_cells HZ.out.2
        go_wp2_with (first | ((with_reducible refine gate_ (.load 55 (.tmp 4)) rfl ?_); refine load_blk rfl 55 (.tmp 4) rfl gz _ 55 rfl _ HC.out.2 Tryd.underlying55 rfl (by kernel_rfl) ?_) | ((with_reducible refine gate_ (.load 55 (.tmp 4)) rfl ?_); refine load_blk rfl 55 (.tmp 4) rfl gz _ 55 rfl _ HZ.out.2 Tryd.underlying55 rfl (by kernel_rfl) ?_) | (go_at_call 63; refine (rampartref03_Is.calls k b0 b1 b2 (t1 % 4294967296) t2 true _ HCK.out).mono ?_; rintro e9 w9 ⟨rfl, hb⟩; have HC := Aside0.mk (And.intro (HZ.out.1.below hb) (obj_below hb HZ.out.2)); clear hb) | ((with_reducible refine gate_store (p := 2) (t := 55) rfl ?_); refine store_blk rfl 55 (.tmp 2) (.tmp 35) rfl w.heap.size 0 (cReq 0 0 0 0 0) _ 55 rfl rfl HC.out.1.2 (by simp) (by kernel_rfl) (by simp [Value.oneCell']) ?_; intro wy ey hwy; have HY := Aside0.mk (HC.out.1.stored 0 0 0 0 0); rw [← show wy = _ from ey] at HY; clear ey hwy) | ((with_reducible refine gate_store (p := 2) (t := 55) rfl ?_); refine store_blk rfl 55 (.tmp 2) (.tmp 35) rfl w.heap.size 0 (cReq 0 0 0 0 0) _ 55 rfl rfl HZ.out.1.2 (by simp) (by kernel_rfl) (by simp [Value.oneCell']) ?_; intro wy ey hwy; have HY := Aside0.mk (HZ.out.1.stored 0 0 0 0 0); rw [← show wy = _ from ey] at HY; clear ey hwy))
        obtain ⟨hb, c1⟩ := HY.out
        clear x3 q0 q1 q2 q3 q4
        obtain ⟨z0, z1, z2, z3, z4⟩ := req_cells c1
        (try simp only [Exit.inBlock, Exit.then])
        refine bodyPost_ret (by simp [results, Tryd.results34, go_sem, z0, z1, z2, z3, z4]; try rfl) rfl ?_
        exact ⟨by first | rfl | simp, hb⟩

theorem rampartref03_Parse.calls (k : Nat) (A0 : Option Addr) (c0 : Nat) (l0 : List Int) (r1 : Int) (r2 : Int) (r3 : Int) (r4 : Int) (r5 : Int) (r6 : Int) (w : World) (hr0 : Kd.C (Kd.int .u8) w A0 l0.length l0) (hc0 : l0.length ≤ c0) (h : rampartref03_Parse.f k l0 = some (r1, r2, r3, r4, r5, r6)) :
    Calls Tryd.prog 34 #[.slice A0 l0.length c0] w fun e w' => e = .returned (.tuple #[.agg #[.int .u8 r1, .int .u8 r2, .int .u8 r3, .int .u32 r4, .int .u64 r5], .int .i64 r6]) ∧ Below w.heap.size w w' := by
  by_cases h16 : l0.length = 16
  · obtain ⟨ad, rfl, _⟩ := Kd.at_int hr0 0 (by omega) (by omega)
    rw [h16] at hr0 hc0
    rw [h16]
    cases h1 : rampartref03_number.f k ((l0.take 8).drop 4) with
    | none => simp [rampartref03_Parse.f, h16, h1] at h
    | some t1 =>
      cases h2 : rampartref03_number.f k (l0.drop 8) with
      | none => simp [rampartref03_Parse.f, h16, h1, h2] at h
      | some t2 =>
        by_cases h3 : rd l0 3 = 0
        · cases hi : rampartref03_Is.f k (rd l0 0) (rd l0 1) (rd l0 2) (t1 % 4294967296) t2 with
          | none => simp [rampartref03_Parse.f, h16, h1, h2, h3, hi] at h
          | some b =>
            cases b with
            | true =>
              simp [rampartref03_Parse.f, h16, h1, h2, h3, hi] at h
              obtain ⟨rfl, rfl, rfl, rfl, rfl, rfl⟩ := h
              exact RParse_ok k ad c0 l0 w hc0 h16 hr0 _ _ _ _ rfl rfl rfl rfl _ _ h1 h2 h3 hi
            | false =>
              simp [rampartref03_Parse.f, h16, h1, h2, h3, hi] at h
              obtain ⟨rfl, rfl, rfl, rfl, rfl, rfl⟩ := h
              exact RParse_bad k ad c0 l0 w hc0 h16 hr0 _ _ _ _ rfl rfl rfl rfl _ _ h1 h2 h3 hi
        · simp [rampartref03_Parse.f, h16, h1, h2, h3] at h
          obtain ⟨rfl, rfl, rfl, rfl, rfl, rfl⟩ := h
          exact RParse_three k ad c0 l0 w hc0 h16 hr0 _ _ _ _ rfl rfl rfl rfl _ _ h1 h2 h3
  · have hz : ¬ (l0.length : Int) = 16 := by omega
    simp [rampartref03_Parse.f, hz] at h
    obtain ⟨rfl, rfl, rfl, rfl, rfl, rfl⟩ := h
    exact RParse_long A0 c0 l0.length w h16
end Go.Proofs.YtoliipbmcekciaaDoor.QDc
