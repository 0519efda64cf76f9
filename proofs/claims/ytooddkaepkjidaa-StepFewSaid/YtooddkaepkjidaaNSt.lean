/- Step: New, of the program and of the reference, walked by hand. Written by a program of this repo (tools/gen_new.py). -/
import Derived.Test.YtooddkaepkjidaaLSt
namespace Go.Proofs.Ytooddkaepkjidaa.QSt
open Go.RowKit Go.Proofs.YtooddkaepkjidaaW.PrintWords Go.Proofs.YtooddkaepkjidaaW.PrintLast Go.Proofs.YtooddkaepkjidaaW.PrintMore
set_option linter.unusedVariables false
set_option linter.unusedSimpArgs false
attribute [local go_sem] cs_off

theorem addr0 (a : Addr) : a.add 0 = a := by
  unfold Addr.add
  cases a with
  | mk b o r => cases r <;> simp
theorem steps_calls (k f : Int) (tl : List Int) (h : steps k = f :: tl) (w : World) :
    Calls Try.prog 10 #[.int .u8 k] w fun e w' => ∃ (ad : Addr) (c : Nat), e = .returned (.slice (some ad) (tl.length + 1) c) ∧ w'.cell? ad = some (.int .i64 f) ∧ Below w.heap.size w w' := by
  refine (step_Steps.calls 2 k (f :: tl) w (by rw [steps_ok, h])).mono ?_
  rintro e w' ⟨v, rfl, hr, hb⟩
  obtain ⟨A, c, rfl, hc, hC⟩ := Kd.R_reads hr
  obtain ⟨ad, rfl, hx⟩ := Kd.at_int hC 0 (by omega) (by simp)
  exact ⟨ad, c, rfl, by simpa [rd, addr0] using hx, hb⟩
theorem rsteps_calls (k f : Int) (tl : List Int) (h : steps k = f :: tl) (w : World) :
    Calls Try.prog 11 #[.int .u8 k] w fun e w' => ∃ (ad : Addr) (c : Nat), e = .returned (.slice (some ad) (tl.length + 1) c) ∧ w'.cell? ad = some (.int .i64 f) ∧ Below w.heap.size w w' := by
  refine (rampartref17_Steps.calls k (f :: tl) w (by rw [rsteps_ok, h])).mono ?_
  rintro e w' ⟨v, rfl, hr, hb⟩
  obtain ⟨A, c, rfl, hc, hC⟩ := Kd.R_reads hr
  obtain ⟨ad, rfl, hx⟩ := Kd.at_int hC 0 (by omega) (by simp)
  exact ⟨ad, c, rfl, by simpa [rd, addr0] using hx, hb⟩
def newR (n k a r h p : Int) : SOp × Int := if n < 1 then (SOp.zero, 1) else if okReq k a r h p = true then (⟨n, k, a, r, h, p, (steps k).headD 0, 0, 0, 0, 0, 0⟩, 0) else (SOp.zero, 30)
theorem ok_kind (k a r h p : Int) (hq : okReq k a r h p = true) : ∃ f tl, steps k = f :: tl := by
  unfold okReq at hq
  unfold steps
  by_cases h3 : k = 3
  · exact ⟨2, [3, 4], by simp [h3]⟩
  by_cases h4 : k = 4
  · exact ⟨5, [6], by simp [h4]⟩
  by_cases h9 : 1 ≤ k ∧ k ≤ 9
  · exact ⟨1, [], by simp [h3, h4, h9]⟩
  · exfalso
    have n1 : k ≠ 1 := by omega
    have n2 : k ≠ 2 := by omega
    have n5 : k ≠ 5 := by omega
    have n6 : k ≠ 6 := by omega
    have n7 : k ≠ 7 := by omega
    have n8 : k ≠ 8 := by omega
    have n9 : k ≠ 9 := by omega
    simp [n1, n2, h3, h4, n5, n6, n7, n8, n9] at hq
abbrev cReq (k a r h p : Int) : Array Value := #[.int .u8 k, .int .u8 a, .int .u8 r, .int .u32 h, .int .u64 p]
/-- The two boxes of New. -/
def NB (w w1 : World) (k a r h p : Int) : Prop := w1.heap[w.heap.size]? = some (.cells (cReq k a r h p) 26 (0, 0)) ∧ w1.heap[w.heap.size + 1]? = some (.cells (cOp SOp.zero) 31 (0, 0)) ∧ Below w.heap.size w w1
theorem NB.start (w : World) (k a r h p : Int) : NB w ((w.alloc (.cells (cReq k a r h p) 26)).alloc (.cells (cOp SOp.zero) 31)) k a r h p := by
  refine ⟨by rw [heap_alloc_old _ _ (by rw [World.size_alloc]; omega)]; exact heap_alloc_new _ _, by rw [show w.heap.size + 1 = (w.alloc (.cells (cReq k a r h p) 26)).heap.size by rw [World.size_alloc]]; exact heap_alloc_new _ _, below_alloc (below_alloc (Below.refl _ _) _) _⟩
theorem NB.below {w w1 w2 : World} {k a r h p : Int} (hn : NB w w1 k a r h p) (hb : Below w1.heap.size w1 w2) : NB w w2 k a r h p :=
  ⟨(hb.block _ (Array.getElem?_eq_some_iff.1 hn.1).1).trans hn.1, (hb.block _ (Array.getElem?_eq_some_iff.1 hn.2.1).1).trans hn.2.1, below_step hn.2.2 hb⟩
theorem req_cells {w : World} {b : Nat} {k a r h p : Int} {t : TypeId} (hh : w.heap[b]? = some (.cells (cReq k a r h p) t (0, 0))) :
    w.cell? ⟨b, 0, none⟩ = some (.int .u8 k) ∧ w.cell? ⟨b, 1, none⟩ = some (.int .u8 a) ∧ w.cell? ⟨b, 2, none⟩ = some (.int .u8 r) ∧ w.cell? ⟨b, 3, none⟩ = some (.int .u32 h) ∧ w.cell? ⟨b, 4, none⟩ = some (.int .u64 p) := by
  refine ⟨?_, ?_, ?_, ?_, ?_⟩ <;> simp [World.cell?, hh]
theorem NB.stored {w w1 : World} {k a r h p : Int} (hn : NB w w1 k a r h p) (O : SOp) : Below w.heap.size w (w1.setCells (w.heap.size + 1) 0 (cOp O).toList) ∧ (w1.setCells (w.heap.size + 1) 0 (cOp O).toList).heap[w.heap.size + 1]? = some (.cells (cOp O) 31 (0, 0)) := by
  refine ⟨below_setCells (by omega) _ _ _ hn.2.2, ?_⟩
  rw [blk_setCells (cOp O).toList 0 _ w1 hn.2.1, setOp (cOp SOp.zero) O (by simp)]

/-- What the region reads. -/
def NB' (w : World) (k a r h p : Int) (w1 : World) : Prop := w1.heap[w.heap.size]? = some (.cells (cReq k a r h p) 26 (0, 0))
set_option maxRecDepth 100000 in
set_option maxHeartbeats 2000000 in
theorem New_low (n k a r h p : Int) (w : World) (hn : n < 1) : Calls Try.prog 8 #[.int .i64 n, .agg (cReq k a r h p)] w fun e w' => e = .returned (.tuple #[vOp SOp.zero, .int .i64 1]) ∧ Below w.heap.size w w' := by
  have hd : decide (n < 1) = true := decide_eq_true hn
  clear hn
  go_enter Try.func8, Try.ntmps8
  go_wp2
  go_returns
  refine ⟨?_, ?_⟩
  · rfl
  · repeat (first | exact Below.refl _ _ | apply below_alloc | apply pw_below_drewN | apply below_drew1)

set_option maxRecDepth 100000 in
set_option maxHeartbeats 2000000 in
theorem New_bad (n k a r h p : Int) (w : World) (hn : ¬ n < 1) (ho : okReq k a r h p = false) : Calls Try.prog 8 #[.int .i64 n, .agg (cReq k a r h p)] w fun e w' => e = .returned (.tuple #[vOp SOp.zero, .int .i64 30]) ∧ Below w.heap.size w w' := by
  have hd : decide (n < 1) = false := decide_eq_false hn
  have HS : Aside0 _ := ⟨NB.start w k a r h p⟩
  have HO := Aside0.mk ho
  clear hn ho
  go_enter Try.func8, Try.ntmps8
  go_wp2_with (first | (go_at_call 23; refine (wire_Check.calls 9 k a r h p (if okReq k a r h p = true then 0 else 30) _ (check_ok k a r h p)).mono ?_; rw [HO.out]; rintro e w1 ⟨rfl, hb1⟩; have HX := Aside0.mk (HS.out.below hb1); obtain ⟨y0, y1, y2, y3, y4⟩ := req_cells HX.out.1; clear hb1) | ((with_reducible refine gate_store (p := 4) (t := 31) rfl ?_); refine store_blk rfl 31 (.tmp 4) (.tmp 14) rfl (w.heap.size + 1) 0 (cOp SOp.zero) _ 31 rfl rfl HX.out.2.1 (by simp) (by kernel_rfl) (by simp [Value.oneCell']) ?_; intro w4 e4 hw4; have HQ := Aside0.mk (HX.out.stored SOp.zero); rw [← show w4 = _ from e4] at HQ; clear e4 hw4))
  obtain ⟨hb, c1⟩ := HQ.out
  obtain ⟨z0, z1, z2, z3, z4, z5, z6, z7, z8, z9, z10, z11⟩ := op_cells c1
  (try simp only [Exit.inBlock, Exit.then])
  refine bodyPost_ret (by simp [results, Try.results8, go_sem, z0, z1, z2, z3, z4, z5, z6, z7, z8, z9, z10, z11]; try rfl) rfl ?_
  exact ⟨by first | rfl | simp, hb⟩

set_option maxRecDepth 100000 in
set_option maxHeartbeats 2000000 in
theorem New_ok (n k a r h p : Int) (w : World) (hn : ¬ n < 1) (ho : okReq k a r h p = true) (f : Int) (tl : List Int) (hs : steps k = f :: tl) : Calls Try.prog 8 #[.int .i64 n, .agg (cReq k a r h p)] w fun e w' => e = .returned (.tuple #[vOp (⟨n, k, a, r, h, p, f, 0, 0, 0, 0, 0⟩ : SOp), .int .i64 0]) ∧ Below w.heap.size w w' := by
  have hd : decide (n < 1) = false := decide_eq_false hn
  have HS : Aside0 _ := ⟨NB.start w k a r h p⟩
  have HO := Aside0.mk ho
  clear hn ho
  have HST := Aside0.mk hs
  clear hs
  go_enter Try.func8, Try.ntmps8
  go_wp2_with (first | (go_at_call 23; refine (wire_Check.calls 9 k a r h p (if okReq k a r h p = true then 0 else 30) _ (check_ok k a r h p)).mono ?_; rw [HO.out]; rintro e w1 ⟨rfl, hb1⟩; have HX := Aside0.mk (HS.out.below hb1); obtain ⟨y0, y1, y2, y3, y4⟩ := req_cells HX.out.1; clear hb1))
  clear y0 y1 y2 y3 y4
  refine wp_region_held_drew (S := NB' w k a r h p) (by kernel_rfl) HX.out.1 (fun hHeld => ?_)
  have HY : Aside0 (NB w w1.drew k a r h p) := ⟨HX.out.below (pw_below_drewN (Below.refl _ _) 1)⟩
  generalize w1.drew = w2 at HY hHeld ⊢
  refine take_at (i := 0) (v := .int .i64 n) 16 rfl rfl (by kernel_rfl) (by kernel_rfl) (by kernel_rfl) (fun _ _ _ h => h) (Or.inl ⟨by rfl, fun w _ => by rfl⟩) hHeld ?_
  try simp only [Act.put, List.setIfInBounds_toArray, List.set_cons_zero, List.set_cons_succ]
  refine take_at (i := 1) (v := .agg (cReq k a r h p)) 17 rfl rfl (by kernel_rfl) (by kernel_rfl) (by kernel_rfl) (fun _ _ _ h => h) (yields_blk (by rfl) 26 (.tmp 3) rfl w.heap.size _ 26 rfl _ (fun w h => h) Try.underlying26 rfl (by kernel_rfl)) hHeld ?_
  try simp only [Act.put, List.setIfInBounds_toArray, List.set_cons_zero, List.set_cons_succ]
  refine take_at (i := 2) (v := .pointer (some ⟨w.heap.size, 0, none⟩)) 18 rfl rfl (by kernel_rfl) (by kernel_rfl) (by kernel_rfl) (fun _ _ _ h => h) (Or.inl ⟨by rfl, fun w _ => by go_simp⟩) hHeld ?_
  try simp only [Act.put, List.setIfInBounds_toArray, List.set_cons_zero, List.set_cons_succ]
  refine take_at (i := 3) (v := .int .u8 k) 19 rfl rfl (by kernel_rfl) (by kernel_rfl) (by kernel_rfl) (fun _ _ _ h => h) (Or.inl ⟨by rfl, fun w hSw => by obtain ⟨q0, q1, q2, q3, q4⟩ := req_cells hSw; go_simp⟩) hHeld ?_
  try simp only [Act.put, List.setIfInBounds_toArray, List.set_cons_zero, List.set_cons_succ]
  refine wpAnyH_ready (rs := [4]) (by kernel_rfl) (by simp) ?_
  refine AllReadyH.cons rfl (fun K hK => ?_) AllReadyH.nil
  go_simp
  go_wp2_with (first | (go_at_call 10; refine (steps_calls k f tl HST.out _).mono ?_; rintro e w3 ⟨ad, c, rfl, had, hb3⟩; have HZ := Aside0.mk (HY.out.below hb3); clear hb3))
  clear hHeld
  refine hK.out _ _ HZ.out.1 (fun hHeld => ?_)
  clear hK K
  try simp only [Act.put, List.setIfInBounds_toArray, List.set_cons_zero, List.set_cons_succ]
  refine wpAnyH_ready (rs := [5]) (by kernel_rfl) (by simp) ?_
  refine AllReadyH.cons rfl (fun K hK => ?_) AllReadyH.nil
  have hlen : (0 : Int) < ((tl.length : Int) + 1) := by omega
  go_simp
  refine hK.out _ _ HZ.out.1 (fun hHeld => ?_)
  clear hK K
  try simp only [Act.put, List.setIfInBounds_toArray, List.set_cons_zero, List.set_cons_succ]
  refine wpAnyH_ready (rs := [6]) (by kernel_rfl) (by simp) ?_
  refine AllReadyH.cons rfl (fun K hK => ?_) AllReadyH.nil
  go_simp
  refine hK.out _ _ HZ.out.1 (fun hHeld => ?_)
  clear hK K
  try simp only [Act.put, List.setIfInBounds_toArray, List.set_cons_zero, List.set_cons_succ]
  refine take_at (i := 7) (v := vOp ⟨n, k, a, r, h, p, f, 0, 0, 0, 0, 0⟩) 23 rfl rfl (by kernel_rfl) (by kernel_rfl) (by kernel_rfl) (fun _ _ _ h => h) (Or.inl ⟨by rfl, fun w _ => by first | rfl | (go_simp; done) | (go_simp; rfl)⟩) hHeld ?_
  try simp only [Act.put, List.setIfInBounds_toArray, List.set_cons_zero, List.set_cons_succ]
  refine wpAnyH_ready (rs := [8]) (by kernel_rfl) (by simp) ?_
  refine AllReadyH.cons rfl (fun K hK => ?_) AllReadyH.nil
  rw [if_pos (by rfl)]
  refine store_at rfl 31 (.tmp 4) (.tmp 23) rfl (w.heap.size + 1) 0 (cOp ⟨n, k, a, r, h, p, f, 0, 0, 0, 0, 0⟩) rfl rfl (there_of_block HZ.out.2.1 0 12 (by simp)) (by kernel_rfl) (by simp [Value.oneCell']) ?_
  have HQ := Aside0.mk (HZ.out.stored ⟨n, k, a, r, h, p, f, 0, 0, 0, 0, 0⟩)
  have hS := (far_setCells (g := w.heap.size + 1) (k := w.heap.size) (by omega) (cOp ⟨n, k, a, r, h, p, f, 0, 0, 0, 0, 0⟩).toList 0 w3).trans HZ.out.1
  clear hHeld had
  generalize w3.setCells (w.heap.size + 1) 0 (cOp ⟨n, k, a, r, h, p, f, 0, 0, 0, 0, 0⟩).toList = w5 at HQ hS ⊢
  refine hK.out _ _ hS (fun hHeld => ?_)
  clear hK K hS
  try simp only [Act.put, List.setIfInBounds_toArray, List.set_cons_zero, List.set_cons_succ]
  refine take_at (i := 9) (v := .int .i64 0) 5 rfl rfl (by kernel_rfl) (by kernel_rfl) (by kernel_rfl) (fun _ _ _ h => h) (Or.inl ⟨by rfl, fun w _ => by rfl⟩) hHeld ?_
  try simp only [Act.put, List.setIfInBounds_toArray, List.set_cons_zero, List.set_cons_succ]
  refine wpAnyH_done (by kernel_rfl) ?_ _
  clear hHeld
  go_wp2
  obtain ⟨hb, c1⟩ := HQ.out
  obtain ⟨z0, z1, z2, z3, z4, z5, z6, z7, z8, z9, z10, z11⟩ := op_cells c1
  (try simp only [Exit.inBlock, Exit.then])
  refine bodyPost_ret (by simp [results, Try.results8, go_sem, z0, z1, z2, z3, z4, z5, z6, z7, z8, z9, z10, z11]; try rfl) rfl ?_
  exact ⟨by first | rfl | simp, hb⟩

set_option maxRecDepth 100000 in
set_option maxHeartbeats 2000000 in
theorem RNew_low (n k a r h p : Int) (w : World) (hn : n < 1) : Calls Try.prog 9 #[.int .i64 n, .agg (cReq k a r h p)] w fun e w' => e = .returned (.tuple #[vOp SOp.zero, .int .i64 1]) ∧ Below w.heap.size w w' := by
  have hd : decide (n < 1) = true := decide_eq_true hn
  clear hn
  go_enter Try.func9, Try.ntmps9
  go_wp2
  go_returns
  refine ⟨?_, ?_⟩
  · rfl
  · repeat (first | exact Below.refl _ _ | apply below_alloc | apply pw_below_drewN | apply below_drew1)

set_option maxRecDepth 100000 in
set_option maxHeartbeats 2000000 in
theorem RNew_bad (n k a r h p : Int) (w : World) (hn : ¬ n < 1) (ho : okReq k a r h p = false) : Calls Try.prog 9 #[.int .i64 n, .agg (cReq k a r h p)] w fun e w' => e = .returned (.tuple #[vOp SOp.zero, .int .i64 30]) ∧ Below w.heap.size w w' := by
  have hd : decide (n < 1) = false := decide_eq_false hn
  have HS : Aside0 _ := ⟨NB.start w k a r h p⟩
  have HO := Aside0.mk ho
  clear hn ho
  go_enter Try.func9, Try.ntmps9
  go_wp2_with (first | (go_at_call 21; refine (rampartref03_Is.calls 9 k a r h p (okReq k a r h p) _ (is_ok k a r h p)).mono ?_; rw [HO.out]; rintro e w1 ⟨rfl, hb1⟩; have HX := Aside0.mk (HS.out.below hb1); obtain ⟨y0, y1, y2, y3, y4⟩ := req_cells HX.out.1; clear hb1) | ((with_reducible refine gate_store (p := 4) (t := 31) rfl ?_); refine store_blk rfl 31 (.tmp 4) (.tmp 12) rfl (w.heap.size + 1) 0 (cOp SOp.zero) _ 31 rfl rfl HX.out.2.1 (by simp) (by kernel_rfl) (by simp [Value.oneCell']) ?_; intro w4 e4 hw4; have HQ := Aside0.mk (HX.out.stored SOp.zero); rw [← show w4 = _ from e4] at HQ; clear e4 hw4))
  obtain ⟨hb, c1⟩ := HQ.out
  obtain ⟨z0, z1, z2, z3, z4, z5, z6, z7, z8, z9, z10, z11⟩ := op_cells c1
  (try simp only [Exit.inBlock, Exit.then])
  refine bodyPost_ret (by simp [results, Try.results9, go_sem, z0, z1, z2, z3, z4, z5, z6, z7, z8, z9, z10, z11]; try rfl) rfl ?_
  exact ⟨by first | rfl | simp, hb⟩

set_option maxRecDepth 100000 in
set_option maxHeartbeats 2000000 in
theorem RNew_ok (n k a r h p : Int) (w : World) (hn : ¬ n < 1) (ho : okReq k a r h p = true) (f : Int) (tl : List Int) (hs : steps k = f :: tl) : Calls Try.prog 9 #[.int .i64 n, .agg (cReq k a r h p)] w fun e w' => e = .returned (.tuple #[vOp (⟨n, k, a, r, h, p, f, 0, 0, 0, 0, 0⟩ : SOp), .int .i64 0]) ∧ Below w.heap.size w w' := by
  have hd : decide (n < 1) = false := decide_eq_false hn
  have HS : Aside0 _ := ⟨NB.start w k a r h p⟩
  have HO := Aside0.mk ho
  clear hn ho
  have HST := Aside0.mk hs
  clear hs
  go_enter Try.func9, Try.ntmps9
  go_wp2_with (first | (go_at_call 21; refine (rampartref03_Is.calls 9 k a r h p (okReq k a r h p) _ (is_ok k a r h p)).mono ?_; rw [HO.out]; rintro e w1 ⟨rfl, hb1⟩; have HX := Aside0.mk (HS.out.below hb1); obtain ⟨y0, y1, y2, y3, y4⟩ := req_cells HX.out.1; clear hb1))
  clear y0 y1 y2 y3 y4
  refine wp_region_held_drew (S := NB' w k a r h p) (by kernel_rfl) HX.out.1 (fun hHeld => ?_)
  have HY : Aside0 (NB w w1.drew k a r h p) := ⟨HX.out.below (pw_below_drewN (Below.refl _ _) 1)⟩
  generalize w1.drew = w2 at HY hHeld ⊢
  refine take_at (i := 0) (v := .int .i64 n) 13 rfl rfl (by kernel_rfl) (by kernel_rfl) (by kernel_rfl) (fun _ _ _ h => h) (Or.inl ⟨by rfl, fun w _ => by rfl⟩) hHeld ?_
  try simp only [Act.put, List.setIfInBounds_toArray, List.set_cons_zero, List.set_cons_succ]
  refine take_at (i := 1) (v := .agg (cReq k a r h p)) 14 rfl rfl (by kernel_rfl) (by kernel_rfl) (by kernel_rfl) (fun _ _ _ h => h) (yields_blk (by rfl) 26 (.tmp 3) rfl w.heap.size _ 26 rfl _ (fun w h => h) Try.underlying26 rfl (by kernel_rfl)) hHeld ?_
  try simp only [Act.put, List.setIfInBounds_toArray, List.set_cons_zero, List.set_cons_succ]
  refine take_at (i := 2) (v := .pointer (some ⟨w.heap.size, 0, none⟩)) 15 rfl rfl (by kernel_rfl) (by kernel_rfl) (by kernel_rfl) (fun _ _ _ h => h) (Or.inl ⟨by rfl, fun w _ => by go_simp⟩) hHeld ?_
  try simp only [Act.put, List.setIfInBounds_toArray, List.set_cons_zero, List.set_cons_succ]
  refine take_at (i := 3) (v := .int .u8 k) 16 rfl rfl (by kernel_rfl) (by kernel_rfl) (by kernel_rfl) (fun _ _ _ h => h) (Or.inl ⟨by rfl, fun w hSw => by obtain ⟨q0, q1, q2, q3, q4⟩ := req_cells hSw; go_simp⟩) hHeld ?_
  try simp only [Act.put, List.setIfInBounds_toArray, List.set_cons_zero, List.set_cons_succ]
  refine wpAnyH_ready (rs := [4]) (by kernel_rfl) (by simp) ?_
  refine AllReadyH.cons rfl (fun K hK => ?_) AllReadyH.nil
  go_simp
  go_wp2_with (first | (go_at_call 11; refine (rsteps_calls k f tl HST.out _).mono ?_; rintro e w3 ⟨ad, c, rfl, had, hb3⟩; have HZ := Aside0.mk (HY.out.below hb3); clear hb3))
  clear hHeld
  refine hK.out _ _ HZ.out.1 (fun hHeld => ?_)
  clear hK K
  try simp only [Act.put, List.setIfInBounds_toArray, List.set_cons_zero, List.set_cons_succ]
  refine wpAnyH_ready (rs := [5]) (by kernel_rfl) (by simp) ?_
  refine AllReadyH.cons rfl (fun K hK => ?_) AllReadyH.nil
  have hlen : (0 : Int) < ((tl.length : Int) + 1) := by omega
  go_simp
  refine hK.out _ _ HZ.out.1 (fun hHeld => ?_)
  clear hK K
  try simp only [Act.put, List.setIfInBounds_toArray, List.set_cons_zero, List.set_cons_succ]
  refine wpAnyH_ready (rs := [6]) (by kernel_rfl) (by simp) ?_
  refine AllReadyH.cons rfl (fun K hK => ?_) AllReadyH.nil
  go_simp
  refine hK.out _ _ HZ.out.1 (fun hHeld => ?_)
  clear hK K
  try simp only [Act.put, List.setIfInBounds_toArray, List.set_cons_zero, List.set_cons_succ]
  refine take_at (i := 7) (v := vOp ⟨n, k, a, r, h, p, f, 0, 0, 0, 0, 0⟩) 20 rfl rfl (by kernel_rfl) (by kernel_rfl) (by kernel_rfl) (fun _ _ _ h => h) (Or.inl ⟨by rfl, fun w _ => by first | rfl | (go_simp; done) | (go_simp; rfl)⟩) hHeld ?_
  try simp only [Act.put, List.setIfInBounds_toArray, List.set_cons_zero, List.set_cons_succ]
  refine wpAnyH_ready (rs := [8]) (by kernel_rfl) (by simp) ?_
  refine AllReadyH.cons rfl (fun K hK => ?_) AllReadyH.nil
  rw [if_pos (by rfl)]
  refine store_at rfl 31 (.tmp 4) (.tmp 20) rfl (w.heap.size + 1) 0 (cOp ⟨n, k, a, r, h, p, f, 0, 0, 0, 0, 0⟩) rfl rfl (there_of_block HZ.out.2.1 0 12 (by simp)) (by kernel_rfl) (by simp [Value.oneCell']) ?_
  have HQ := Aside0.mk (HZ.out.stored ⟨n, k, a, r, h, p, f, 0, 0, 0, 0, 0⟩)
  have hS := (far_setCells (g := w.heap.size + 1) (k := w.heap.size) (by omega) (cOp ⟨n, k, a, r, h, p, f, 0, 0, 0, 0, 0⟩).toList 0 w3).trans HZ.out.1
  clear hHeld had
  generalize w3.setCells (w.heap.size + 1) 0 (cOp ⟨n, k, a, r, h, p, f, 0, 0, 0, 0, 0⟩).toList = w5 at HQ hS ⊢
  refine hK.out _ _ hS (fun hHeld => ?_)
  clear hK K hS
  try simp only [Act.put, List.setIfInBounds_toArray, List.set_cons_zero, List.set_cons_succ]
  refine take_at (i := 9) (v := .int .i64 0) 5 rfl rfl (by kernel_rfl) (by kernel_rfl) (by kernel_rfl) (fun _ _ _ h => h) (Or.inl ⟨by rfl, fun w _ => by rfl⟩) hHeld ?_
  try simp only [Act.put, List.setIfInBounds_toArray, List.set_cons_zero, List.set_cons_succ]
  refine wpAnyH_done (by kernel_rfl) ?_ _
  clear hHeld
  go_wp2
  obtain ⟨hb, c1⟩ := HQ.out
  obtain ⟨z0, z1, z2, z3, z4, z5, z6, z7, z8, z9, z10, z11⟩ := op_cells c1
  (try simp only [Exit.inBlock, Exit.then])
  refine bodyPost_ret (by simp [results, Try.results9, go_sem, z0, z1, z2, z3, z4, z5, z6, z7, z8, z9, z10, z11]; try rfl) rfl ?_
  exact ⟨by first | rfl | simp, hb⟩

theorem New_calls (n k a r h p : Int) (w : World) : Calls Try.prog 8 #[.int .i64 n, .agg (cReq k a r h p)] w fun e w' => e = .returned (.tuple #[vOp (newR n k a r h p).1, .int .i64 (newR n k a r h p).2]) ∧ Below w.heap.size w w' := by
  by_cases hn : n < 1
  · have e : newR n k a r h p = (SOp.zero, 1) := by unfold newR; rw [if_pos hn]
    rw [e]; exact New_low n k a r h p w hn
  · cases ho : okReq k a r h p with
    | false =>
      have e : newR n k a r h p = (SOp.zero, 30) := by unfold newR; rw [if_neg hn, if_neg (by rw [ho]; decide)]
      rw [e]; exact New_bad n k a r h p w hn ho
    | true =>
      obtain ⟨f, tl, hs⟩ := ok_kind k a r h p ho
      have e : newR n k a r h p = (⟨n, k, a, r, h, p, f, 0, 0, 0, 0, 0⟩, 0) := by unfold newR; rw [if_neg hn, if_pos ho, hs]; rfl
      rw [e]; exact New_ok n k a r h p w hn ho f tl hs
theorem RNew_calls (n k a r h p : Int) (w : World) : Calls Try.prog 9 #[.int .i64 n, .agg (cReq k a r h p)] w fun e w' => e = .returned (.tuple #[vOp (newR n k a r h p).1, .int .i64 (newR n k a r h p).2]) ∧ Below w.heap.size w w' := by
  by_cases hn : n < 1
  · have e : newR n k a r h p = (SOp.zero, 1) := by unfold newR; rw [if_pos hn]
    rw [e]; exact RNew_low n k a r h p w hn
  · cases ho : okReq k a r h p with
    | false =>
      have e : newR n k a r h p = (SOp.zero, 30) := by unfold newR; rw [if_neg hn, if_neg (by rw [ho]; decide)]
      rw [e]; exact RNew_bad n k a r h p w hn ho
    | true =>
      obtain ⟨f, tl, hs⟩ := ok_kind k a r h p ho
      have e : newR n k a r h p = (⟨n, k, a, r, h, p, f, 0, 0, 0, 0, 0⟩, 0) := by unfold newR; rw [if_neg hn, if_pos ho, hs]; rfl
      rw [e]; exact RNew_ok n k a r h p w hn ho f tl hs
end Go.Proofs.Ytooddkaepkjidaa.QSt
