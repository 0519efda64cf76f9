/- Step: the walk of StepNews. Written by a program of this repo (tools/gen_news.py). -/
import Derived.Test.YtooddkaepkjidaaXSt
namespace Go.Proofs.Ytooddkaepkjidaa.QSt
open Go.RowKit Go.Proofs.YtooddkaepkjidaaW.PrintWords Go.Proofs.YtooddkaepkjidaaW.PrintLast Go.Proofs.YtooddkaepkjidaaW.PrintMore
set_option linter.unusedVariables false
set_option linter.unusedSimpArgs false
attribute [local go_sem] cs_off

/-- The two boxes of the statement. -/
def LR (b : Nat) (k a r h p : Int) (o : SOp) (w1 : World) : Prop := w1.heap[b]? = some (.cells (cReq k a r h p) 26 (0, 0)) ∧ w1.heap[b + 1]? = some (.cells (cOp o) 31 (0, 0))
theorem LR.start (w : World) (k a r h p : Int) (o : SOp) : LR w.heap.size k a r h p o ((w.alloc (.cells (cReq k a r h p) 26)).alloc (.cells (cOp o) 31)) :=
  ⟨by rw [heap_alloc_old _ _ (by rw [World.size_alloc]; omega)]; exact heap_alloc_new _ _, by rw [show w.heap.size + 1 = (w.alloc (.cells (cReq k a r h p) 26)).heap.size by rw [World.size_alloc]]; exact heap_alloc_new _ _⟩
theorem LR.below {b : Nat} {k a r h p : Int} {o : SOp} {w1 w2 : World} (hh : LR b k a r h p o w1) (hb : Below w1.heap.size w1 w2) : LR b k a r h p o w2 := ⟨blk_below hb hh.1, blk_below hb hh.2⟩
theorem Steps_calls' (k : Int) (w : World) : Calls Try.prog 10 #[.int .u8 k] w fun e w' => ∃ A c, e = .returned (.slice A (steps k).length c) ∧ Kd.C (Kd.int .i64) w' A (steps k).length (steps k) ∧ Below w.heap.size w w' := by
  refine (step_Steps.calls 2 k (steps k) w (steps_ok k)).mono ?_
  rintro e w' ⟨v, rfl, hr, hb⟩
  obtain ⟨A, c, rfl, hc, hC⟩ := Kd.R_reads hr
  exact ⟨A, c, rfl, hC, hb⟩
theorem RSteps_calls' (k : Int) (w : World) : Calls Try.prog 11 #[.int .u8 k] w fun e w' => ∃ A c, e = .returned (.slice A (steps k).length c) ∧ Kd.C (Kd.int .i64) w' A (steps k).length (steps k) ∧ Below w.heap.size w w' := by
  refine (rampartref17_Steps.calls k (steps k) w (rsteps_ok k)).mono ?_
  rintro e w' ⟨v, rfl, hr, hb⟩
  obtain ⟨A, c, rfl, hc, hC⟩ := Kd.R_reads hr
  exact ⟨A, c, rfl, hC, hb⟩
theorem New_calls' (n k a r h p : Int) (N : SOp) (e : Int) (hN : newR n k a r h p = (N, e)) (w : World) : Calls Try.prog 8 #[.int .i64 n, .agg (cReq k a r h p)] w fun e' w' => e' = .returned (.tuple #[vOp N, .int .i64 e]) ∧ Below w.heap.size w w' := by
  have := New_calls n k a r h p w
  rw [hN] at this
  exact this
theorem RNew_calls' (n k a r h p : Int) (N : SOp) (e : Int) (hN : newR n k a r h p = (N, e)) (w : World) : Calls Try.prog 9 #[.int .i64 n, .agg (cReq k a r h p)] w fun e' w' => e' = .returned (.tuple #[vOp N, .int .i64 e]) ∧ Below w.heap.size w w' := by
  have := RNew_calls n k a r h p w
  rw [hN] at this
  exact this

attribute [local go_sem high] eqA31
set_option maxRecDepth 100000 in
set_option maxHeartbeats 4000000 in
theorem StepNews_core (n k a r h p : Int) (o : SOp) (kk : Int) (w : World) : Calls Try.prog 3 #[.int .i64 n, .agg (cReq k a r h p), vOp o, .int .u8 kk] w fun e w' => e = .returned (.bool true) ∧ Below w.heap.size w w' := by
  obtain ⟨N, e, hN⟩ : ∃ N e, newR n k a r h p = (N, e) := ⟨_, _, rfl⟩
  have HN := Aside0.mk hN
  clear hN
  have HS := Aside0.mk (And.intro (below2 w (.cells (cReq k a r h p) 26) (.cells (cOp o) 31)) (LR.start w k a r h p o))
  go_enter Try.func3, Try.ntmps3
  go_upto_region 1 with fail
  change Code.wp Try.prog _ _ _ ((w.alloc (.cells (cReq k a r h p) 26)).alloc (.cells (cOp o) 31))
  generalize (w.alloc (.cells (cReq k a r h p) 26)).alloc (.cells (cOp o) 31) = wa at HS ⊢
  go_upto_region 2 with (first | ((with_reducible refine gate_ (.load 26 (.tmp 5)) rfl ?_); refine load_blk rfl 26 (.tmp 5) rfl w.heap.size _ 26 rfl _ HS.out.2.1 Try.underlying26 rfl (by kernel_rfl) ?_) | (go_at_call 8; refine (New_calls' n k a r h p N e HN.out _).mono ?_; rintro e1 w1 ⟨rfl, hb1⟩; have HX := Aside0.mk (And.intro (below_step HS.out.1 hb1) (HS.out.2.below hb1)); clear hb1))
  change Code.wp Try.prog _ _ _ (w1.alloc (.cells (cOp N) 31))
  have HY := Aside0.mk (And.intro (below_alloc HX.out.1 (.cells (cOp N) 31)) (And.intro (HX.out.2.below (below_alloc (Below.refl _ _) (.cells (cOp N) 31))) (heap_alloc_new w1 (.cells (cOp N) 31))))
  clear HS HX
  generalize w1.alloc (.cells (cOp N) 31) = w2 at HY ⊢
  generalize w1.heap.size = g1 at HY ⊢
  go_upto_region 3 with (first | ((with_reducible refine gate_ (.load 26 (.tmp 5)) rfl ?_); refine load_blk rfl 26 (.tmp 5) rfl w.heap.size _ 26 rfl _ HY.out.2.1.1 Try.underlying26 rfl (by kernel_rfl) ?_) | (go_at_call 9; refine (RNew_calls' n k a r h p N e HN.out _).mono ?_; rintro e3 w3 ⟨rfl, hb3⟩; have HZ := Aside0.mk (And.intro (below_step HY.out.1 hb3) (And.intro (HY.out.2.1.below hb3) (blk_below hb3 HY.out.2.2))); clear hb3))
  change Code.wp Try.prog _ _ _ (w3.alloc (.cells (cOp N) 31))
  have HU := Aside0.mk (And.intro (below_alloc HZ.out.1 (.cells (cOp N) 31)) (And.intro (HZ.out.2.1.below (below_alloc (Below.refl _ _) (.cells (cOp N) 31))) (And.intro (blk_below (below_alloc (Below.refl _ _) (.cells (cOp N) 31)) HZ.out.2.2) (heap_alloc_new w3 (.cells (cOp N) 31)))))
  clear HY HZ
  generalize w3.alloc (.cells (cOp N) 31) = w4 at HU ⊢
  generalize w3.heap.size = g3 at HU ⊢
  go_upto_region 4 with (first | (go_at_call 10; refine (Steps_calls' kk _).mono ?_; rintro e5 w5 ⟨A1, c1, rfl, hC1, hb5⟩; have HV := Aside0.mk (And.intro hb5 hC1); clear hb5 hC1) | (go_at_call 11; refine (RSteps_calls' kk _).mono ?_; rintro e6 w6 ⟨A2, c2, rfl, hC2, hb6⟩; have HW := Aside0.mk (And.intro (below_step HV.out.1 hb6) (And.intro (Kd.C_below HV.out.2 hb6) hC2)); clear hb6 hC2))
  have HQ : Aside0 (Below w.heap.size w w6 ∧ LR w.heap.size k a r h p o w6 ∧ w6.heap[g1]? = some (.cells (cOp N) 31 (0, 0)) ∧ w6.heap[g3]? = some (.cells (cOp N) 31 (0, 0)) ∧ Kd.C (Kd.int .i64) w6 A1 (steps kk).length (steps kk) ∧ Kd.C (Kd.int .i64) w6 A2 (steps kk).length (steps kk)) := ⟨below_step HU.out.1 HW.out.1, HU.out.2.1.below HW.out.1, blk_below HW.out.1 HU.out.2.2.1, blk_below HW.out.1 HU.out.2.2.2, HW.out.2.1, HW.out.2.2⟩
  clear HU HV HW
  refine wp_region_held_drew (S := fun w' => Below w6.heap.size w6 w') (by kernel_rfl) (pw_below_drewN (Below.refl _ _) 1) (fun hHeld => ?_)
  generalize w6.drew = w7 at hHeld ⊢
  refine take_at (i := 0) (v := vOp N) 32 rfl rfl (by kernel_rfl) (by kernel_rfl) (by kernel_rfl) (fun _ _ _ h => h) (yields_blk (by rfl) 31 (.tmp 9) rfl g1 _ 31 rfl _ (fun w' hS => blk_below hS HQ.out.2.2.1) Try.underlying31 rfl (by kernel_rfl)) hHeld ?_
  try simp only [Act.put, List.setIfInBounds_toArray, List.set_cons_zero, List.set_cons_succ]
  refine take_at (i := 1) (v := vOp N) 33 rfl rfl (by kernel_rfl) (by kernel_rfl) (by kernel_rfl) (fun _ _ _ h => h) (yields_blk (by rfl) 31 (.tmp 11) rfl g3 _ 31 rfl _ (fun w' hS => blk_below hS HQ.out.2.2.2.1) Try.underlying31 rfl (by kernel_rfl)) hHeld ?_
  try simp only [Act.put, List.setIfInBounds_toArray, List.set_cons_zero, List.set_cons_succ]
  refine take_at (i := 2) (v := .bool false) 34 rfl rfl (by kernel_rfl) (by kernel_rfl) (by kernel_rfl) (fun _ _ _ h => h) (Or.inl ⟨by rfl, fun w _ => by first | (go_simp; done) | (go_simp; with_reducible rfl) | rfl⟩) hHeld ?_
  try simp only [Act.put, List.setIfInBounds_toArray, List.set_cons_zero, List.set_cons_succ]
  refine take_at (i := 3) (v := .bool false) 35 rfl rfl (by kernel_rfl) (by kernel_rfl) (by kernel_rfl) (fun _ _ _ h => h) (Or.inl ⟨by rfl, fun w _ => by first | (go_simp; done) | (go_simp; with_reducible rfl) | rfl⟩) hHeld ?_
  try simp only [Act.put, List.setIfInBounds_toArray, List.set_cons_zero, List.set_cons_succ]
  refine take_at (i := 4) (v := .int .i64 e) 36 rfl rfl (by kernel_rfl) (by kernel_rfl) (by kernel_rfl) (fun _ _ _ h => h) (Or.inl ⟨by rfl, fun w _ => by first | (go_simp; done) | (go_simp; with_reducible rfl) | rfl⟩) hHeld ?_
  try simp only [Act.put, List.setIfInBounds_toArray, List.set_cons_zero, List.set_cons_succ]
  refine take_at (i := 5) (v := .int .i64 e) 37 rfl rfl (by kernel_rfl) (by kernel_rfl) (by kernel_rfl) (fun _ _ _ h => h) (Or.inl ⟨by rfl, fun w _ => by first | (go_simp; done) | (go_simp; with_reducible rfl) | rfl⟩) hHeld ?_
  try simp only [Act.put, List.setIfInBounds_toArray, List.set_cons_zero, List.set_cons_succ]
  refine take_at (i := 6) (v := .bool false) 38 rfl rfl (by kernel_rfl) (by kernel_rfl) (by kernel_rfl) (fun _ _ _ h => h) (Or.inl ⟨by rfl, fun w _ => by first | (go_simp; done) | (go_simp; with_reducible rfl) | rfl⟩) hHeld ?_
  try simp only [Act.put, List.setIfInBounds_toArray, List.set_cons_zero, List.set_cons_succ]
  refine take_at (i := 7) (v := .bool false) 39 rfl rfl (by kernel_rfl) (by kernel_rfl) (by kernel_rfl) (fun _ _ _ h => h) (Or.inl ⟨by rfl, fun w _ => by first | (go_simp; done) | (go_simp; with_reducible rfl) | rfl⟩) hHeld ?_
  try simp only [Act.put, List.setIfInBounds_toArray, List.set_cons_zero, List.set_cons_succ]
  refine take_at (i := 8) (v := .bool false) 40 rfl rfl (by kernel_rfl) (by kernel_rfl) (by kernel_rfl) (fun _ _ _ h => h) (Or.inl ⟨by rfl, fun w _ => by first | (go_simp; done) | (go_simp; with_reducible rfl) | rfl⟩) hHeld ?_
  try simp only [Act.put, List.setIfInBounds_toArray, List.set_cons_zero, List.set_cons_succ]
  refine take_at (i := 9) (v := .slice A1 (steps kk).length c1) 41 rfl rfl (by kernel_rfl) (by kernel_rfl) (by kernel_rfl) (fun _ _ _ h => h) (Or.inl ⟨by rfl, fun w _ => by first | (go_simp; done) | (go_simp; with_reducible rfl) | rfl⟩) hHeld ?_
  try simp only [Act.put, List.setIfInBounds_toArray, List.set_cons_zero, List.set_cons_succ]
  refine take_at (i := 10) (v := .int .i64 ((steps kk).length : Int)) 42 rfl rfl (by kernel_rfl) (by kernel_rfl) (by kernel_rfl) (fun _ _ _ h => h) (Or.inl ⟨by rfl, fun w _ => by first | (go_simp; done) | (go_simp; with_reducible rfl) | rfl⟩) hHeld ?_
  try simp only [Act.put, List.setIfInBounds_toArray, List.set_cons_zero, List.set_cons_succ]
  refine take_at (i := 11) (v := .slice A2 (steps kk).length c2) 43 rfl rfl (by kernel_rfl) (by kernel_rfl) (by kernel_rfl) (fun _ _ _ h => h) (Or.inl ⟨by rfl, fun w _ => by first | (go_simp; done) | (go_simp; with_reducible rfl) | rfl⟩) hHeld ?_
  try simp only [Act.put, List.setIfInBounds_toArray, List.set_cons_zero, List.set_cons_succ]
  refine take_at (i := 12) (v := .int .i64 ((steps kk).length : Int)) 44 rfl rfl (by kernel_rfl) (by kernel_rfl) (by kernel_rfl) (fun _ _ _ h => h) (Or.inl ⟨by rfl, fun w _ => by first | (go_simp; done) | (go_simp; with_reducible rfl) | rfl⟩) hHeld ?_
  try simp only [Act.put, List.setIfInBounds_toArray, List.set_cons_zero, List.set_cons_succ]
  refine take_at (i := 13) (v := .bool false) 45 rfl rfl (by kernel_rfl) (by kernel_rfl) (by kernel_rfl) (fun _ _ _ h => h) (Or.inl ⟨by rfl, fun w _ => by first | (go_simp; done) | (go_simp; with_reducible rfl) | rfl⟩) hHeld ?_
  try simp only [Act.put, List.setIfInBounds_toArray, List.set_cons_zero, List.set_cons_succ]
  refine take_at (i := 14) (v := .bool false) 46 rfl rfl (by kernel_rfl) (by kernel_rfl) (by kernel_rfl) (fun _ _ _ h => h) (Or.inl ⟨by rfl, fun w _ => by first | (go_simp; done) | (go_simp; with_reducible rfl) | rfl⟩) hHeld ?_
  try simp only [Act.put, List.setIfInBounds_toArray, List.set_cons_zero, List.set_cons_succ]
  refine take_at (i := 15) (v := .bool false) 47 rfl rfl (by kernel_rfl) (by kernel_rfl) (by kernel_rfl) (fun _ _ _ h => h) (Or.inl ⟨by rfl, fun w _ => by first | (go_simp; done) | (go_simp; with_reducible rfl) | rfl⟩) hHeld ?_
  try simp only [Act.put, List.setIfInBounds_toArray, List.set_cons_zero, List.set_cons_succ]
  refine take_at (i := 16) (v := vOp o) 48 rfl rfl (by kernel_rfl) (by kernel_rfl) (by kernel_rfl) (fun _ _ _ h => h) (yields_blk (by rfl) 31 (.tmp 6) rfl (w.heap.size + 1) _ 31 rfl _ (fun w' hS => blk_below hS HQ.out.2.1.2) Try.underlying31 rfl (by kernel_rfl)) hHeld ?_
  try simp only [Act.put, List.setIfInBounds_toArray, List.set_cons_zero, List.set_cons_succ]
  refine take_at (i := 18) (v := vOp o) 50 rfl rfl (by kernel_rfl) (by kernel_rfl) (by kernel_rfl) (fun _ _ _ h => h) (yields_blk (by rfl) 31 (.tmp 6) rfl (w.heap.size + 1) _ 31 rfl _ (fun w' hS => blk_below hS HQ.out.2.1.2) Try.underlying31 rfl (by kernel_rfl)) hHeld ?_
  try simp only [Act.put, List.setIfInBounds_toArray, List.set_cons_zero, List.set_cons_succ]
  refine wpAnyH_ready (rs := [17]) (by kernel_rfl) (by simp) ?_
  refine AllReadyH.cons rfl (fun K hK => ?_) AllReadyH.nil
  go_simp
  go_wp2_with (first | (go_at_call 12; refine (step_Left.calls 10 o.n o.k o.a o.r o.h o.p o.nx o.ch o.ln o.sq o.ep o.pl (leftOf o) _ (left_ok o)).mono ?_; rintro e8 w8 ⟨rfl, hb8⟩; have H8 := Aside0.mk (below_step hHeld hb8); clear hb8))
  clear hHeld
  refine hK.out _ _ H8.out (fun hHeld => ?_)
  clear hK K
  try simp only [Act.put, List.setIfInBounds_toArray, List.set_cons_zero, List.set_cons_succ]
  refine wpAnyH_ready (rs := [19]) (by kernel_rfl) (by simp) ?_
  refine AllReadyH.cons rfl (fun K hK => ?_) AllReadyH.nil
  go_simp
  go_wp2_with (first | (go_at_call 13; refine (rampartref17_Left.calls 10 o.n o.k o.a o.r o.h o.p o.nx o.ch o.ln o.sq o.ep o.pl (leftOf o) _ (rleft_ok o)).mono ?_; rintro e9 w9 ⟨rfl, hb9⟩; have H9 := Aside0.mk (below_step H8.out hb9); clear hb9))
  clear hHeld
  refine hK.out _ _ H9.out (fun hHeld => ?_)
  clear hK K
  try simp only [Act.put, List.setIfInBounds_toArray, List.set_cons_zero, List.set_cons_succ]
  refine take_at (i := 20) (v := .bool false) 52 rfl rfl (by kernel_rfl) (by kernel_rfl) (by kernel_rfl) (fun _ _ _ h => h) (Or.inl ⟨by rfl, fun w _ => by first | (go_simp; done) | (go_simp; with_reducible rfl) | rfl⟩) hHeld ?_
  try simp only [Act.put, List.setIfInBounds_toArray, List.set_cons_zero, List.set_cons_succ]
  refine take_at (i := 21) (v := .bool false) 53 rfl rfl (by kernel_rfl) (by kernel_rfl) (by kernel_rfl) (fun _ _ _ h => h) (Or.inl ⟨by rfl, fun w _ => by first | (go_simp; done) | (go_simp; with_reducible rfl) | rfl⟩) hHeld ?_
  try simp only [Act.put, List.setIfInBounds_toArray, List.set_cons_zero, List.set_cons_succ]
  refine wpAnyH_done (by kernel_rfl) ?_ _
  clear hHeld H8
  go_wp2
  go_loopw [15] (fun i wr => ∃ j : Nat, Aside0 (j ≤ (steps kk).length) ∧ i = .int .i64 (j : Int) ∧ Aside0 (Below w6.heap.size w6 wr)) (fun i _ => (steps kk).length - (intOf i).toNat)
  case atStart => exact ⟨0, ⟨Nat.zero_le _⟩, rfl, H9⟩
  case round =>
    obtain ⟨j, hj, rfl, hwr⟩ := hrel
    have hsl : Aside0 ((steps kk).length ≤ 3) := ⟨by unfold steps; by_cases h3 : kk = 3 <;> by_cases h4 : kk = 4 <;> by_cases hr : 1 ≤ kk ∧ kk ≤ 9 <;> simp [h3, h4, hr]⟩
    by_cases hlt : (j : Int) < ((steps kk).length : Int)
    · obtain ⟨ad1, rfl, x1⟩ := Kd.at_int HQ.out.2.2.2.2.1 j (by omega) hlt
      obtain ⟨ad2, rfl, x2⟩ := Kd.at_int HQ.out.2.2.2.2.2 j (by omega) hlt
      have hlt' : decide ((j : Int) < ((steps kk).length : Int)) = true := decide_eq_true hlt
      have hge : (0 : Int) ≤ (j : Int) := by omega
      have HL := Aside0.mk hlt
      rw [Int.toNat_natCast] at x1 x2
      generalize rd (steps kk) (j : Int) = q at x1 x2
      have X1 := Aside0.mk x1
      have X2 := Aside0.mk x2
      clear x1 x2
      go_wp2
      refine wp_region_held_drew (S := fun w' => Below wr.heap.size wr w') (by kernel_rfl) (pw_below_drewN (Below.refl _ _) 1) (fun hHeld => ?_)
      generalize wr.drew = wd at hHeld ⊢
      refine take_at (i := 0) (v := .slice (some ad1) (steps kk).length c1) 60 rfl rfl (by kernel_rfl) (by kernel_rfl) (by kernel_rfl) (fun _ _ _ h => h) (Or.inl ⟨by rfl, fun w _ => by first | (go_simp; done) | (go_simp; with_reducible rfl)⟩) hHeld ?_
      try simp only [Act.put, List.setIfInBounds_toArray, List.set_cons_zero, List.set_cons_succ]
      refine take_at (i := 1) (v := .int .i64 (j : Int)) 61 rfl rfl (by kernel_rfl) (by kernel_rfl) (by kernel_rfl) (fun _ _ _ h => h) (Or.inl ⟨by rfl, fun w _ => by first | (go_simp; done) | (go_simp; with_reducible rfl)⟩) hHeld ?_
      try simp only [Act.put, List.setIfInBounds_toArray, List.set_cons_zero, List.set_cons_succ]
      refine take_at (i := 2) (v := .pointer (some (ad1.add j))) 62 rfl rfl (by kernel_rfl) (by kernel_rfl) (by kernel_rfl) (fun _ _ _ h => h) (Or.inl ⟨by rfl, fun w _ => by first | (go_simp; done) | (go_simp; with_reducible rfl)⟩) hHeld ?_
      try simp only [Act.put, List.setIfInBounds_toArray, List.set_cons_zero, List.set_cons_succ]
      refine take_at (i := 3) (v := .int .i64 q) 63 rfl rfl (by kernel_rfl) (by kernel_rfl) (by kernel_rfl) (fun _ _ _ h => h) (Or.inl ⟨by rfl, fun w' hS => by have hq := pw_cell_below hS (pw_cell_below hwr.out X1.out); go_simp⟩) hHeld ?_
      try simp only [Act.put, List.setIfInBounds_toArray, List.set_cons_zero, List.set_cons_succ]
      refine take_at (i := 4) (v := .slice (some ad2) (steps kk).length c2) 64 rfl rfl (by kernel_rfl) (by kernel_rfl) (by kernel_rfl) (fun _ _ _ h => h) (Or.inl ⟨by rfl, fun w _ => by first | (go_simp; done) | (go_simp; with_reducible rfl)⟩) hHeld ?_
      try simp only [Act.put, List.setIfInBounds_toArray, List.set_cons_zero, List.set_cons_succ]
      refine take_at (i := 5) (v := .int .i64 (j : Int)) 65 rfl rfl (by kernel_rfl) (by kernel_rfl) (by kernel_rfl) (fun _ _ _ h => h) (Or.inl ⟨by rfl, fun w _ => by first | (go_simp; done) | (go_simp; with_reducible rfl)⟩) hHeld ?_
      try simp only [Act.put, List.setIfInBounds_toArray, List.set_cons_zero, List.set_cons_succ]
      refine take_at (i := 6) (v := .pointer (some (ad2.add j))) 66 rfl rfl (by kernel_rfl) (by kernel_rfl) (by kernel_rfl) (fun _ _ _ h => h) (Or.inl ⟨by rfl, fun w _ => by first | (go_simp; done) | (go_simp; with_reducible rfl)⟩) hHeld ?_
      try simp only [Act.put, List.setIfInBounds_toArray, List.set_cons_zero, List.set_cons_succ]
      refine take_at (i := 7) (v := .int .i64 q) 67 rfl rfl (by kernel_rfl) (by kernel_rfl) (by kernel_rfl) (fun _ _ _ h => h) (Or.inl ⟨by rfl, fun w' hS => by have hq := pw_cell_below hS (pw_cell_below hwr.out X2.out); go_simp⟩) hHeld ?_
      try simp only [Act.put, List.setIfInBounds_toArray, List.set_cons_zero, List.set_cons_succ]
      refine take_at (i := 8) (v := .bool false) 68 rfl rfl (by kernel_rfl) (by kernel_rfl) (by kernel_rfl) (fun _ _ _ h => h) (Or.inl ⟨by rfl, fun w _ => by first | (go_simp; done) | (go_simp; with_reducible rfl)⟩) hHeld ?_
      try simp only [Act.put, List.setIfInBounds_toArray, List.set_cons_zero, List.set_cons_succ]
      refine wpAnyH_done (by kernel_rfl) ?_ _
      go_wp2
      have hwj : wrap64 ((j : Int) + 1) = (j : Int) + 1 := by have := hsl.out; have := HL.out; unfold wrap64; omega
      go_roundw
      case rel => exact ⟨j + 1, ⟨by have := HL.out; omega⟩, by rw [hwj, Int.natCast_add]; rfl, ⟨below_step hwr.out hHeld⟩⟩
      case measure =>
        have hh : (steps kk).length - ((j : Int) + 1).toNat < (steps kk).length - ((j : Int)).toNat := by have := HL.out; clear hwj; omega
        generalize steps kk = L at hh ⊢
        simp only [hwj]
        exact hh
    · have hlt' : decide ((j : Int) < ((steps kk).length : Int)) = false := decide_eq_false hlt
      go_wp2_with (first | (go_at_call 14; refine (alive_calls _).mono ?_; rintro e10 w10 ⟨rfl, hb10⟩; have HF := Aside0.mk (below_step hwr.out hb10); clear hb10))
      go_ret
      exact ⟨rfl, below_step HQ.out.1 HF.out⟩
theorem StepNews_walk (n k a r h p a0 a1 a2 a3 a4 a5 a6 a7 a8 a9 a10 a11 kk : Int) (w : World) {P0 P1 P2 P3 : Prop} (_h0 : P0) (_h1 : P1) (_h2 : P2) (_h3 : P3) :
    Calls Try.prog 3 #[.int .i64 n, .agg #[.int .u8 k, .int .u8 a, .int .u8 r, .int .u32 h, .int .u64 p], .agg #[.int .i64 a0, .int .u8 a1, .int .u8 a2, .int .u8 a3, .int .u32 a4, .int .u64 a5, .int .i64 a6, .int .i64 a7, .int .i64 a8, .int .u64 a9, .int .u64 a10, .int .u64 a11], .int .u8 kk] w fun e w' => e = .returned (.bool true) ∧ Below w.heap.size w w' :=
  StepNews_core n k a r h p ⟨a0, a1, a2, a3, a4, a5, a6, a7, a8, a9, a10, a11⟩ kk w
end Go.Proofs.Ytooddkaepkjidaa.QSt
