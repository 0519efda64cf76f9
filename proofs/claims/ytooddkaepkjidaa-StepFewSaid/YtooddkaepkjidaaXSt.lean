/- Step: the walk of StepDoes. Written by a program of this repo (tools/gen_doeslaw.py). -/
import Derived.Test.YtooddkaepkjidaaUSt
namespace Go.Proofs.Ytooddkaepkjidaa.QSt
open Go.RowKit Go.Proofs.YtooddkaepkjidaaW.PrintWords Go.Proofs.YtooddkaepkjidaaW.PrintLast Go.Proofs.YtooddkaepkjidaaW.PrintMore
set_option linter.unusedVariables false
set_option linter.unusedSimpArgs false
attribute [local go_sem] cs_off

theorem Do_calls' (B : Nat) (s : WS) (o : SOp) (x y : Int) (O : SOp) (R : SRep) (b : Bool) (e : Int) (hD : doR s.t o = (O, R, b, e)) (w0 w : World) (h : WP B w0 s w) (hl : s.qs.length < 1000) :
    Calls Try.prog 17 #[vW B, vOp o, .agg #[.int .i64 x, .int .i64 y]] w fun e' w' => e' = .returned (.tuple #[vOp O, vRep R, .bool b, .int .i64 e]) ∧ (∃ r, WP B w0 { (if e = 0 then asked s o x y else s) with rd := r } w') ∧ KB B w w' := by
  have := Do_calls B s o x y w0 w h hl
  rw [hD] at this
  exact this
theorem RDo_calls' (t : STold) (o : SOp) (O : SOp) (R : SRep) (b : Bool) (e : Int) (hD : doR t o = (O, R, b, e)) (w : World) :
    Calls Try.prog 18 #[vTold t, vOp o] w fun e' w' => e' = .returned (.tuple #[vOp O, vRep R, .bool b, .int .i64 e]) ∧ Below w.heap.size w w' := by
  have := RDo_calls t o w
  rw [hD] at this
  exact this
theorem WP.asked1 {B : Nat} {w0 w : World} {s : WS} {m : Int} (h : WP B w0 s w) (hq : s.qs = [m]) :
    ∃ g cap, w.heap[B]? = some (.cells (wCells s.t (.slice (some ⟨g, 0, none⟩) 1 cap) s.l s.a0 s.a1 s.rd) 51 (0, 0)) ∧ w.cell? ⟨g, 0, none⟩ = some (.int .i64 m) := by
  obtain ⟨hb, v, hw, hrow⟩ := h
  rw [hq] at hrow
  obtain ⟨g, cap, rfl⟩ := ownsRow_succ (k := 0) (by simpa using hrow)
  obtain ⟨A, c', hv, hc', hrd⟩ := own_reads_of_le (enc := Value.int .i64) (d := (0 : Int)) hrow
  injection hv with hA _ _
  subst hA
  have hC : Kd.C (Kd.int .i64) w (some ⟨g, 0, none⟩) 1 [m] := Kd.C_of_reads (h1 := fun _ => rfl) hrd
  obtain ⟨ad, he, hx⟩ := Kd.at_int hC 0 (by omega) (by simp)
  injection he with he
  subst he
  exact ⟨g, cap, hw, by simpa [Addr.add, rd] using hx⟩
theorem WP.asked0 {B : Nat} {w0 w : World} {s : WS} (h : WP B w0 s w) (hq : s.qs = []) : ∃ A cap, w.cell? ⟨B, 18, none⟩ = some (.slice A 0 cap) := by
  obtain ⟨A, cap, h1, _, _⟩ := h.asked_n
  rw [hq] at h1
  exact ⟨A, cap, h1⟩
theorem last_range {w : World} {B : Nat} {t : STold} {v : Value} {l : SOp} {a0 a1 rd : Int} (h : w.heap[B]? = some (.cells (wCells t v l a0 a1 rd) 51 (0, 0))) : w.rangeAt B 19 (cOp l).toList := by
  have := World.rangeAt_of_block h 19 12
  simpa [wCells] using this
theorem at_range {w : World} {B : Nat} {t : STold} {v : Value} {l : SOp} {a0 a1 rd : Int} (h : w.heap[B]? = some (.cells (wCells t v l a0 a1 rd) 51 (0, 0))) : w.rangeAt B 31 [.int .i64 a0, .int .i64 a1] := by
  have := World.rangeAt_of_block h 31 2
  simpa [wCells] using this
theorem ask_cell {w : World} {B : Nat} {t : STold} {v : Value} {l : SOp} {a0 a1 rd : Int} (h : w.heap[B]? = some (.cells (wCells t v l a0 a1 rd) 51 (0, 0))) : w.cell? ⟨B, 18, none⟩ = some v := by
  simp [World.cell?, h, wCells]
theorem Enabled_new (B : Nat) (t : STold) (o : SOp) (w0 w : World) (h : WP B w0 (wNew t) w) :
    Calls Try.prog 15 #[vW B, vOp o] w fun e w' => e = .returned (.bool (enb t.ready o)) ∧ (∃ r, WP B w0 { wNew t with rd := r } w') ∧ KB B w w' := Enabled_calls B (wNew t) o w0 w h
theorem blk_below {w w' : World} {g : Nat} {C : Obj} (hb : Below w.heap.size w w') (h : w.heap[g]? = some C) : w'.heap[g]? = some C := (hb.block _ (Array.getElem?_eq_some_iff.1 h).1).trans h

attribute [local go_sem high] eqA31 eqA44 eqA48
set_option maxRecDepth 100000 in
set_option maxHeartbeats 4000000 in
theorem StepDoes_not (o : SOp) (t : STold) (x y : Int) (w : World) (O : SOp) (R : SRep) (b : Bool) (e : Int) (hD : doR t o = (O, R, b, e)) (he : e ≠ 0) : Calls Try.prog 4 #[vOp o, vTold t, .agg #[.int .i64 x, .int .i64 y]] w fun e w' => e = .returned (.bool true) ∧ Below w.heap.size w w' := by
  have HD := Aside0.mk hD
  clear hD
  have hne : (e != 0) = true := bne_iff_ne.mpr he
  have HE := Aside0.mk he
  clear he
  go_enter Try.func4, Try.ntmps4
  go_upto_region 1 with fail
  have HX0 : Aside0 (Below w.heap.size w (((w.alloc (.cells (cOp o) 31)).alloc (.cells (cTold t) 46)).alloc (.cells #[.int .i64 x, .int .i64 y] 48)) ∧ w.heap.size + 1 + 1 < (((w.alloc (.cells (cOp o) 31)).alloc (.cells (cTold t) 46)).alloc (.cells #[.int .i64 x, .int .i64 y] 48)).heap.size ∧ LB w.heap.size t o x y (((w.alloc (.cells (cOp o) 31)).alloc (.cells (cTold t) 46)).alloc (.cells #[.int .i64 x, .int .i64 y] 48))) := ⟨below_alloc (below_alloc (below_alloc (Below.refl _ _) _) _) _, by simp only [World.size_alloc]; omega, LB.start w t o x y⟩
  change Code.wp Try.prog _ _ _ (((w.alloc (.cells (cOp o) 31)).alloc (.cells (cTold t) 46)).alloc (.cells #[.int .i64 x, .int .i64 y] 48))
  generalize ((w.alloc (.cells (cOp o) 31)).alloc (.cells (cTold t) 46)).alloc (.cells #[.int .i64 x, .int .i64 y] 48) = wa at HX0 ⊢
  go_upto_region 2 with (first | ((with_reducible refine gate_ (.load 46 (.tmp 4)) rfl ?_); refine load_blk rfl 46 (.tmp 4) rfl (w.heap.size + 1) _ 46 rfl _ HX0.out.2.2.2.1 Try.underlying46 rfl (by kernel_rfl) ?_))
  have HX : Aside0 (LW w wa (wNew t) t o x y (wa.alloc (.cells (wCells t (.slice none 0 0) SOp.zero 0 0 0) 51))) := ⟨HX0.out.1, HX0.out.2.1, WP.new wa t, HX0.out.2.2.below (below_alloc (Below.refl _ _) _)⟩
  change Code.wp Try.prog _ _ _ (wa.alloc (.cells (wCells t (.slice none 0 0) SOp.zero 0 0 0) 51))
  clear HX0
  generalize wa.alloc (.cells (wCells t (.slice none 0 0) SOp.zero 0 0 0) 51) = wb at HX ⊢
  refine wp_region_held_drew (S := LB w.heap.size t o x y) (by kernel_rfl) HX.out.2.2.2 (fun hHeld => ?_)
  have HX1 : Aside0 (LW w wa (wNew t) t o x y wb.drew) := ⟨HX.out.below (pw_below_drewN (Below.refl _ _) 1)⟩
  generalize wb.drew = wc at HX1 hHeld ⊢
  refine take_at (i := 0) (v := .pointer (some ⟨wa.heap.size, 0, none⟩)) 20 rfl rfl (by kernel_rfl) (by kernel_rfl) (by kernel_rfl) (fun _ _ _ h => h) (Or.inl ⟨by rfl, fun w _ => by first | (go_simp; done) | (go_simp; with_reducible rfl) | rfl⟩) hHeld ?_
  try simp only [Act.put, List.setIfInBounds_toArray, List.set_cons_zero, List.set_cons_succ]
  refine take_at (i := 1) (v := vW wa.heap.size) 21 rfl rfl (by kernel_rfl) (by kernel_rfl) (by kernel_rfl) (fun _ _ _ h => h) (Or.inl ⟨by rfl, fun w _ => by first | (go_simp; done) | (go_simp; with_reducible rfl) | rfl⟩) hHeld ?_
  try simp only [Act.put, List.setIfInBounds_toArray, List.set_cons_zero, List.set_cons_succ]
  refine take_at (i := 2) (v := vOp o) 22 rfl rfl (by kernel_rfl) (by kernel_rfl) (by kernel_rfl) (fun _ _ _ h => h) (yields_blk (by rfl) 31 (.tmp 3) rfl w.heap.size _ 31 rfl _ (fun w h => h.1) Try.underlying31 rfl (by kernel_rfl)) hHeld ?_
  try simp only [Act.put, List.setIfInBounds_toArray, List.set_cons_zero, List.set_cons_succ]
  refine take_at (i := 4) (v := vTold t) 24 rfl rfl (by kernel_rfl) (by kernel_rfl) (by kernel_rfl) (fun _ _ _ h => h) (yields_blk (by rfl) 46 (.tmp 4) rfl (w.heap.size + 1) _ 46 rfl _ (fun w h => h.2.1) Try.underlying46 rfl (by kernel_rfl)) hHeld ?_
  try simp only [Act.put, List.setIfInBounds_toArray, List.set_cons_zero, List.set_cons_succ]
  refine take_at (i := 5) (v := vOp o) 25 rfl rfl (by kernel_rfl) (by kernel_rfl) (by kernel_rfl) (fun _ _ _ h => h) (yields_blk (by rfl) 31 (.tmp 3) rfl w.heap.size _ 31 rfl _ (fun w h => h.1) Try.underlying31 rfl (by kernel_rfl)) hHeld ?_
  try simp only [Act.put, List.setIfInBounds_toArray, List.set_cons_zero, List.set_cons_succ]
  refine wpAnyH_ready (rs := [3]) (by kernel_rfl) (by simp) ?_
  refine AllReadyH.cons rfl (fun K hK => ?_) AllReadyH.nil
  go_simp
  go_wp2_with (first | (go_at_call 15; refine (Enabled_new wa.heap.size t o wa _ HX1.out.2.2.1).mono ?_; rintro e3 w3 ⟨rfl, ⟨r3, hw3⟩, hk3⟩; have HY := Aside0.mk (HX1.out.kb hw3 hk3); clear hw3 hk3))
  clear hHeld
  refine hK.out _ _ (HY.out.2.2.2) (fun hHeld => ?_)
  clear hK K
  try simp only [Act.put, List.setIfInBounds_toArray, List.set_cons_zero, List.set_cons_succ]
  refine wpAnyH_ready (rs := [6]) (by kernel_rfl) (by simp) ?_
  refine AllReadyH.cons rfl (fun K hK => ?_) AllReadyH.nil
  go_simp
  go_wp2_with (first | (go_at_call 16; refine (rampartref17_Enabled.calls 10 t.rep.c t.rep.a t.rep.h t.rep.p t.op.n t.op.k t.op.a t.op.r t.op.h t.op.p t.op.nx t.op.ch t.op.ln t.op.sq t.op.ep t.op.pl t.code t.ready o.n o.k o.a o.r o.h o.p o.nx o.ch o.ln o.sq o.ep o.pl (enb t.ready o) _ (renb_ok t o)).mono ?_; rintro e4 w4 ⟨rfl, hb4⟩; have HZ := Aside0.mk (HY.out.below hb4); clear hb4))
  clear hHeld
  refine hK.out _ _ (HZ.out.2.2.2) (fun hHeld => ?_)
  clear hK K
  try simp only [Act.put, List.setIfInBounds_toArray, List.set_cons_zero, List.set_cons_succ]
  refine take_at (i := 7) (v := .bool false) 27 rfl rfl (by kernel_rfl) (by kernel_rfl) (by kernel_rfl) (fun _ _ _ h => h) (Or.inl ⟨by rfl, fun w _ => by cases enb t.ready o <;> (first | (go_simp; done) | (go_simp; with_reducible rfl) | rfl)⟩) hHeld ?_
  try simp only [Act.put, List.setIfInBounds_toArray, List.set_cons_zero, List.set_cons_succ]
  refine take_at (i := 8) (v := .bool false) 28 rfl rfl (by kernel_rfl) (by kernel_rfl) (by kernel_rfl) (fun _ _ _ h => h) (Or.inl ⟨by rfl, fun w _ => by first | (go_simp; done) | (go_simp; with_reducible rfl) | rfl⟩) hHeld ?_
  try simp only [Act.put, List.setIfInBounds_toArray, List.set_cons_zero, List.set_cons_succ]
  refine take_at (i := 9) (v := .pointer (some ⟨wa.heap.size, 0, none⟩)) 29 rfl rfl (by kernel_rfl) (by kernel_rfl) (by kernel_rfl) (fun _ _ _ h => h) (Or.inl ⟨by rfl, fun w _ => by first | (go_simp; done) | (go_simp; with_reducible rfl) | rfl⟩) hHeld ?_
  try simp only [Act.put, List.setIfInBounds_toArray, List.set_cons_zero, List.set_cons_succ]
  refine take_at (i := 10) (v := .pointer (some ⟨wa.heap.size, 0, none⟩)) 30 rfl rfl (by kernel_rfl) (by kernel_rfl) (by kernel_rfl) (fun _ _ _ h => h) (Or.inl ⟨by rfl, fun w _ => by first | (go_simp; done) | (go_simp; with_reducible rfl) | rfl⟩) hHeld ?_
  try simp only [Act.put, List.setIfInBounds_toArray, List.set_cons_zero, List.set_cons_succ]
  refine take_at (i := 11) (v := .pointer (some ⟨wa.heap.size, 18, none⟩)) 31 rfl rfl (by kernel_rfl) (by kernel_rfl) (by kernel_rfl) (fun _ _ _ h => h) (Or.inl ⟨by rfl, fun w _ => by first | (go_simp; done) | (go_simp; with_reducible rfl) | rfl⟩) hHeld ?_
  try simp only [Act.put, List.setIfInBounds_toArray, List.set_cons_zero, List.set_cons_succ]
  obtain ⟨A0, cap0, q0⟩ := HZ.out.2.2.1.asked0 rfl
  refine wpAnyH_ready (rs := [12]) (by kernel_rfl) (by simp) ?_
  refine AllReadyH.cons rfl (fun K hK => ?_) AllReadyH.nil
  go_simp
  clear hHeld
  refine hK.out _ _ (HZ.out.2.2.2) (fun hHeld => ?_)
  clear hK K
  try simp only [Act.put, List.setIfInBounds_toArray, List.set_cons_zero, List.set_cons_succ]
  refine take_at (i := 13) (v := .int .i64 0) 33 rfl rfl (by kernel_rfl) (by kernel_rfl) (by kernel_rfl) (fun _ _ _ h => h) (Or.inl ⟨by rfl, fun w _ => by first | (go_simp; done) | (go_simp; with_reducible rfl) | rfl⟩) hHeld ?_
  try simp only [Act.put, List.setIfInBounds_toArray, List.set_cons_zero, List.set_cons_succ]
  refine take_at (i := 14) (v := .bool false) 34 rfl rfl (by kernel_rfl) (by kernel_rfl) (by kernel_rfl) (fun _ _ _ h => h) (Or.inl ⟨by rfl, fun w _ => by first | (go_simp; done) | (go_simp; with_reducible rfl) | rfl⟩) hHeld ?_
  try simp only [Act.put, List.setIfInBounds_toArray, List.set_cons_zero, List.set_cons_succ]
  refine take_at (i := 15) (v := .bool false) 35 rfl rfl (by kernel_rfl) (by kernel_rfl) (by kernel_rfl) (fun _ _ _ h => h) (Or.inl ⟨by rfl, fun w _ => by first | (go_simp; done) | (go_simp; with_reducible rfl) | rfl⟩) hHeld ?_
  try simp only [Act.put, List.setIfInBounds_toArray, List.set_cons_zero, List.set_cons_succ]
  refine wpAnyH_done (by kernel_rfl) ?_ _
  clear hHeld q0
  go_upto_region 5 with (first | ((with_reducible refine gate_ (.load 31 (.tmp 3)) rfl ?_); refine load_blk rfl 31 (.tmp 3) rfl w.heap.size _ 31 rfl _ HZ.out.2.2.2.1 Try.underlying31 rfl (by kernel_rfl) ?_) | ((with_reducible refine gate_ (.load 48 (.tmp 5)) rfl ?_); refine load_blk rfl 48 (.tmp 5) rfl (w.heap.size + 1 + 1) _ 48 rfl _ HZ.out.2.2.2.2.2 Try.underlying48 rfl (by kernel_rfl) ?_) | (go_at_call 17; refine (Do_calls' wa.heap.size { wNew t with rd := r3 } o x y O R b _ HD.out wa _ HZ.out.2.2.1 (by show 0 < 1000; omega)).mono ?_; rintro e5 w5 ⟨rfl, ⟨r5, hw5⟩, hk5⟩; have HU := Aside0.mk (HZ.out.kb hw5 hk5); clear hw5 hk5))
  change Code.wp Try.prog _ _ _ ((w5.alloc (.cells (cOp O) 31)).alloc (.cells (cRep R) 44))
  have HV := Aside0.mk (And.intro (HU.out.below (below2 w5 (.cells (cOp O) 31) (.cells (cRep R) 44))) (S2.new w5 O R))
  clear HX HX1 HY HZ HU
  generalize ((w5.alloc (.cells (cOp O) 31)).alloc (.cells (cRep R) 44)) = w6 at HV ⊢
  generalize w5.heap.size = g5 at HV ⊢
  go_upto_region 6 with (first | ((with_reducible refine gate_ (.load 31 (.tmp 3)) rfl ?_); refine load_blk rfl 31 (.tmp 3) rfl w.heap.size _ 31 rfl _ HV.out.1.2.2.2.1 Try.underlying31 rfl (by kernel_rfl) ?_) | ((with_reducible refine gate_ (.load 46 (.tmp 4)) rfl ?_); refine load_blk rfl 46 (.tmp 4) rfl (w.heap.size + 1) _ 46 rfl _ HV.out.1.2.2.2.2.1 Try.underlying46 rfl (by kernel_rfl) ?_) | (go_at_call 18; refine (RDo_calls' t o O R b _ HD.out _).mono ?_; rintro e7 w7 ⟨rfl, hb7⟩; have HW := Aside0.mk (And.intro (HV.out.1.below hb7) (HV.out.2.below hb7)); clear hb7))
  change Code.wp Try.prog _ _ _ ((w7.alloc (.cells (cOp O) 31)).alloc (.cells (cRep R) 44))
  have HQ := Aside0.mk (And.intro (HW.out.1.below (below2 w7 (.cells (cOp O) 31) (.cells (cRep R) 44))) (And.intro (HW.out.2.below (below2 w7 (.cells (cOp O) 31) (.cells (cRep R) 44))) (S2.new w7 O R)))
  clear HV HW
  generalize ((w7.alloc (.cells (cOp O) 31)).alloc (.cells (cRep R) 44)) = w8 at HQ ⊢
  generalize w7.heap.size = g7 at HQ ⊢
  obtain ⟨z0, z1, z2, z3, z4, z5, z6, z7, z8, z9, z10, z11⟩ := op_cells HQ.out.2.1.1
  obtain ⟨y0, y1, y2, y3⟩ := rep_cells HQ.out.2.1.2
  obtain ⟨u0, u1, u2, u3, u4, u5, u6, u7, u8, u9, u10, u11⟩ := op_cells HQ.out.2.2.1
  obtain ⟨v0, v1, v2, v3⟩ := rep_cells HQ.out.2.2.2
  go_upto_region 8 with fail
  clear z0 z1 z2 z3 z4 z5 z6 z7 z8 z9 z10 z11 y0 y1 y2 y3 u0 u1 u2 u3 u4 u5 u6 u7 u8 u9 u10 u11 v0 v1 v2 v3
  have hW : WP wa.heap.size wa { wNew t with rd := r5 } w8 := by
    have := HQ.out.1.2.2.1
    rw [if_neg HE.out] at this
    exact this
  obtain ⟨A1, cap1, q1⟩ := hW.asked0 rfl
  clear hW
  go_wp2_with (first | (go_at_call 14; refine (alive_calls _).mono ?_; rintro e9 w9 ⟨rfl, hb9⟩; have HF := Aside0.mk (below_step HQ.out.1.out hb9); clear hb9))
  go_ret
  exact ⟨rfl, HF.out⟩
attribute [local go_sem high] eqA31 eqA44 eqA48
set_option maxRecDepth 100000 in
set_option maxHeartbeats 4000000 in
theorem StepDoes_1 (o : SOp) (t : STold) (x y : Int) (w : World) (O : SOp) (R : SRep) (b : Bool) (e : Int) (hD : doR t o = (O, R, b, e)) (he : e = 0) (hn : o.nx = 1) : Calls Try.prog 4 #[vOp o, vTold t, .agg #[.int .i64 x, .int .i64 y]] w fun e w' => e = .returned (.bool true) ∧ Below w.heap.size w w' := by
  have HD := Aside0.mk hD
  clear hD
  subst he
  have hn1 : (o.nx == 1) = true := beq_iff_eq.mpr hn
  have HT : Aside0 (o.nx = 1 ∨ o.nx = 4) := ⟨.inl hn⟩
  clear hn
  go_enter Try.func4, Try.ntmps4
  go_upto_region 1 with fail
  have HX0 : Aside0 (Below w.heap.size w (((w.alloc (.cells (cOp o) 31)).alloc (.cells (cTold t) 46)).alloc (.cells #[.int .i64 x, .int .i64 y] 48)) ∧ w.heap.size + 1 + 1 < (((w.alloc (.cells (cOp o) 31)).alloc (.cells (cTold t) 46)).alloc (.cells #[.int .i64 x, .int .i64 y] 48)).heap.size ∧ LB w.heap.size t o x y (((w.alloc (.cells (cOp o) 31)).alloc (.cells (cTold t) 46)).alloc (.cells #[.int .i64 x, .int .i64 y] 48))) := ⟨below_alloc (below_alloc (below_alloc (Below.refl _ _) _) _) _, by simp only [World.size_alloc]; omega, LB.start w t o x y⟩
  change Code.wp Try.prog _ _ _ (((w.alloc (.cells (cOp o) 31)).alloc (.cells (cTold t) 46)).alloc (.cells #[.int .i64 x, .int .i64 y] 48))
  generalize ((w.alloc (.cells (cOp o) 31)).alloc (.cells (cTold t) 46)).alloc (.cells #[.int .i64 x, .int .i64 y] 48) = wa at HX0 ⊢
  go_upto_region 2 with (first | ((with_reducible refine gate_ (.load 46 (.tmp 4)) rfl ?_); refine load_blk rfl 46 (.tmp 4) rfl (w.heap.size + 1) _ 46 rfl _ HX0.out.2.2.2.1 Try.underlying46 rfl (by kernel_rfl) ?_))
  have HX : Aside0 (LW w wa (wNew t) t o x y (wa.alloc (.cells (wCells t (.slice none 0 0) SOp.zero 0 0 0) 51))) := ⟨HX0.out.1, HX0.out.2.1, WP.new wa t, HX0.out.2.2.below (below_alloc (Below.refl _ _) _)⟩
  change Code.wp Try.prog _ _ _ (wa.alloc (.cells (wCells t (.slice none 0 0) SOp.zero 0 0 0) 51))
  clear HX0
  generalize wa.alloc (.cells (wCells t (.slice none 0 0) SOp.zero 0 0 0) 51) = wb at HX ⊢
  refine wp_region_held_drew (S := LB w.heap.size t o x y) (by kernel_rfl) HX.out.2.2.2 (fun hHeld => ?_)
  have HX1 : Aside0 (LW w wa (wNew t) t o x y wb.drew) := ⟨HX.out.below (pw_below_drewN (Below.refl _ _) 1)⟩
  generalize wb.drew = wc at HX1 hHeld ⊢
  refine take_at (i := 0) (v := .pointer (some ⟨wa.heap.size, 0, none⟩)) 20 rfl rfl (by kernel_rfl) (by kernel_rfl) (by kernel_rfl) (fun _ _ _ h => h) (Or.inl ⟨by rfl, fun w _ => by first | (go_simp; done) | (go_simp; with_reducible rfl) | rfl⟩) hHeld ?_
  try simp only [Act.put, List.setIfInBounds_toArray, List.set_cons_zero, List.set_cons_succ]
  refine take_at (i := 1) (v := vW wa.heap.size) 21 rfl rfl (by kernel_rfl) (by kernel_rfl) (by kernel_rfl) (fun _ _ _ h => h) (Or.inl ⟨by rfl, fun w _ => by first | (go_simp; done) | (go_simp; with_reducible rfl) | rfl⟩) hHeld ?_
  try simp only [Act.put, List.setIfInBounds_toArray, List.set_cons_zero, List.set_cons_succ]
  refine take_at (i := 2) (v := vOp o) 22 rfl rfl (by kernel_rfl) (by kernel_rfl) (by kernel_rfl) (fun _ _ _ h => h) (yields_blk (by rfl) 31 (.tmp 3) rfl w.heap.size _ 31 rfl _ (fun w h => h.1) Try.underlying31 rfl (by kernel_rfl)) hHeld ?_
  try simp only [Act.put, List.setIfInBounds_toArray, List.set_cons_zero, List.set_cons_succ]
  refine take_at (i := 4) (v := vTold t) 24 rfl rfl (by kernel_rfl) (by kernel_rfl) (by kernel_rfl) (fun _ _ _ h => h) (yields_blk (by rfl) 46 (.tmp 4) rfl (w.heap.size + 1) _ 46 rfl _ (fun w h => h.2.1) Try.underlying46 rfl (by kernel_rfl)) hHeld ?_
  try simp only [Act.put, List.setIfInBounds_toArray, List.set_cons_zero, List.set_cons_succ]
  refine take_at (i := 5) (v := vOp o) 25 rfl rfl (by kernel_rfl) (by kernel_rfl) (by kernel_rfl) (fun _ _ _ h => h) (yields_blk (by rfl) 31 (.tmp 3) rfl w.heap.size _ 31 rfl _ (fun w h => h.1) Try.underlying31 rfl (by kernel_rfl)) hHeld ?_
  try simp only [Act.put, List.setIfInBounds_toArray, List.set_cons_zero, List.set_cons_succ]
  refine wpAnyH_ready (rs := [3]) (by kernel_rfl) (by simp) ?_
  refine AllReadyH.cons rfl (fun K hK => ?_) AllReadyH.nil
  go_simp
  go_wp2_with (first | (go_at_call 15; refine (Enabled_new wa.heap.size t o wa _ HX1.out.2.2.1).mono ?_; rintro e3 w3 ⟨rfl, ⟨r3, hw3⟩, hk3⟩; have HY := Aside0.mk (HX1.out.kb hw3 hk3); clear hw3 hk3))
  clear hHeld
  refine hK.out _ _ (HY.out.2.2.2) (fun hHeld => ?_)
  clear hK K
  try simp only [Act.put, List.setIfInBounds_toArray, List.set_cons_zero, List.set_cons_succ]
  refine wpAnyH_ready (rs := [6]) (by kernel_rfl) (by simp) ?_
  refine AllReadyH.cons rfl (fun K hK => ?_) AllReadyH.nil
  go_simp
  go_wp2_with (first | (go_at_call 16; refine (rampartref17_Enabled.calls 10 t.rep.c t.rep.a t.rep.h t.rep.p t.op.n t.op.k t.op.a t.op.r t.op.h t.op.p t.op.nx t.op.ch t.op.ln t.op.sq t.op.ep t.op.pl t.code t.ready o.n o.k o.a o.r o.h o.p o.nx o.ch o.ln o.sq o.ep o.pl (enb t.ready o) _ (renb_ok t o)).mono ?_; rintro e4 w4 ⟨rfl, hb4⟩; have HZ := Aside0.mk (HY.out.below hb4); clear hb4))
  clear hHeld
  refine hK.out _ _ (HZ.out.2.2.2) (fun hHeld => ?_)
  clear hK K
  try simp only [Act.put, List.setIfInBounds_toArray, List.set_cons_zero, List.set_cons_succ]
  refine take_at (i := 7) (v := .bool false) 27 rfl rfl (by kernel_rfl) (by kernel_rfl) (by kernel_rfl) (fun _ _ _ h => h) (Or.inl ⟨by rfl, fun w _ => by cases enb t.ready o <;> (first | (go_simp; done) | (go_simp; with_reducible rfl) | rfl)⟩) hHeld ?_
  try simp only [Act.put, List.setIfInBounds_toArray, List.set_cons_zero, List.set_cons_succ]
  refine take_at (i := 8) (v := .bool false) 28 rfl rfl (by kernel_rfl) (by kernel_rfl) (by kernel_rfl) (fun _ _ _ h => h) (Or.inl ⟨by rfl, fun w _ => by first | (go_simp; done) | (go_simp; with_reducible rfl) | rfl⟩) hHeld ?_
  try simp only [Act.put, List.setIfInBounds_toArray, List.set_cons_zero, List.set_cons_succ]
  refine take_at (i := 9) (v := .pointer (some ⟨wa.heap.size, 0, none⟩)) 29 rfl rfl (by kernel_rfl) (by kernel_rfl) (by kernel_rfl) (fun _ _ _ h => h) (Or.inl ⟨by rfl, fun w _ => by first | (go_simp; done) | (go_simp; with_reducible rfl) | rfl⟩) hHeld ?_
  try simp only [Act.put, List.setIfInBounds_toArray, List.set_cons_zero, List.set_cons_succ]
  refine take_at (i := 10) (v := .pointer (some ⟨wa.heap.size, 0, none⟩)) 30 rfl rfl (by kernel_rfl) (by kernel_rfl) (by kernel_rfl) (fun _ _ _ h => h) (Or.inl ⟨by rfl, fun w _ => by first | (go_simp; done) | (go_simp; with_reducible rfl) | rfl⟩) hHeld ?_
  try simp only [Act.put, List.setIfInBounds_toArray, List.set_cons_zero, List.set_cons_succ]
  refine take_at (i := 11) (v := .pointer (some ⟨wa.heap.size, 18, none⟩)) 31 rfl rfl (by kernel_rfl) (by kernel_rfl) (by kernel_rfl) (fun _ _ _ h => h) (Or.inl ⟨by rfl, fun w _ => by first | (go_simp; done) | (go_simp; with_reducible rfl) | rfl⟩) hHeld ?_
  try simp only [Act.put, List.setIfInBounds_toArray, List.set_cons_zero, List.set_cons_succ]
  obtain ⟨A0, cap0, q0⟩ := HZ.out.2.2.1.asked0 rfl
  refine wpAnyH_ready (rs := [12]) (by kernel_rfl) (by simp) ?_
  refine AllReadyH.cons rfl (fun K hK => ?_) AllReadyH.nil
  go_simp
  clear hHeld
  refine hK.out _ _ (HZ.out.2.2.2) (fun hHeld => ?_)
  clear hK K
  try simp only [Act.put, List.setIfInBounds_toArray, List.set_cons_zero, List.set_cons_succ]
  refine take_at (i := 13) (v := .int .i64 0) 33 rfl rfl (by kernel_rfl) (by kernel_rfl) (by kernel_rfl) (fun _ _ _ h => h) (Or.inl ⟨by rfl, fun w _ => by first | (go_simp; done) | (go_simp; with_reducible rfl) | rfl⟩) hHeld ?_
  try simp only [Act.put, List.setIfInBounds_toArray, List.set_cons_zero, List.set_cons_succ]
  refine take_at (i := 14) (v := .bool false) 34 rfl rfl (by kernel_rfl) (by kernel_rfl) (by kernel_rfl) (fun _ _ _ h => h) (Or.inl ⟨by rfl, fun w _ => by first | (go_simp; done) | (go_simp; with_reducible rfl) | rfl⟩) hHeld ?_
  try simp only [Act.put, List.setIfInBounds_toArray, List.set_cons_zero, List.set_cons_succ]
  refine take_at (i := 15) (v := .bool false) 35 rfl rfl (by kernel_rfl) (by kernel_rfl) (by kernel_rfl) (fun _ _ _ h => h) (Or.inl ⟨by rfl, fun w _ => by first | (go_simp; done) | (go_simp; with_reducible rfl) | rfl⟩) hHeld ?_
  try simp only [Act.put, List.setIfInBounds_toArray, List.set_cons_zero, List.set_cons_succ]
  refine wpAnyH_done (by kernel_rfl) ?_ _
  clear hHeld q0
  go_upto_region 5 with (first | ((with_reducible refine gate_ (.load 31 (.tmp 3)) rfl ?_); refine load_blk rfl 31 (.tmp 3) rfl w.heap.size _ 31 rfl _ HZ.out.2.2.2.1 Try.underlying31 rfl (by kernel_rfl) ?_) | ((with_reducible refine gate_ (.load 48 (.tmp 5)) rfl ?_); refine load_blk rfl 48 (.tmp 5) rfl (w.heap.size + 1 + 1) _ 48 rfl _ HZ.out.2.2.2.2.2 Try.underlying48 rfl (by kernel_rfl) ?_) | (go_at_call 17; refine (Do_calls' wa.heap.size { wNew t with rd := r3 } o x y O R b _ HD.out wa _ HZ.out.2.2.1 (by show 0 < 1000; omega)).mono ?_; rintro e5 w5 ⟨rfl, ⟨r5, hw5⟩, hk5⟩; have HU := Aside0.mk (HZ.out.kb hw5 hk5); clear hw5 hk5))
  change Code.wp Try.prog _ _ _ ((w5.alloc (.cells (cOp O) 31)).alloc (.cells (cRep R) 44))
  have HV := Aside0.mk (And.intro (HU.out.below (below2 w5 (.cells (cOp O) 31) (.cells (cRep R) 44))) (S2.new w5 O R))
  clear HX HX1 HY HZ HU
  generalize ((w5.alloc (.cells (cOp O) 31)).alloc (.cells (cRep R) 44)) = w6 at HV ⊢
  generalize w5.heap.size = g5 at HV ⊢
  go_upto_region 6 with (first | ((with_reducible refine gate_ (.load 31 (.tmp 3)) rfl ?_); refine load_blk rfl 31 (.tmp 3) rfl w.heap.size _ 31 rfl _ HV.out.1.2.2.2.1 Try.underlying31 rfl (by kernel_rfl) ?_) | ((with_reducible refine gate_ (.load 46 (.tmp 4)) rfl ?_); refine load_blk rfl 46 (.tmp 4) rfl (w.heap.size + 1) _ 46 rfl _ HV.out.1.2.2.2.2.1 Try.underlying46 rfl (by kernel_rfl) ?_) | (go_at_call 18; refine (RDo_calls' t o O R b _ HD.out _).mono ?_; rintro e7 w7 ⟨rfl, hb7⟩; have HW := Aside0.mk (And.intro (HV.out.1.below hb7) (HV.out.2.below hb7)); clear hb7))
  change Code.wp Try.prog _ _ _ ((w7.alloc (.cells (cOp O) 31)).alloc (.cells (cRep R) 44))
  have HQ := Aside0.mk (And.intro (HW.out.1.below (below2 w7 (.cells (cOp O) 31) (.cells (cRep R) 44))) (And.intro (HW.out.2.below (below2 w7 (.cells (cOp O) 31) (.cells (cRep R) 44))) (S2.new w7 O R)))
  clear HV HW
  generalize ((w7.alloc (.cells (cOp O) 31)).alloc (.cells (cRep R) 44)) = w8 at HQ ⊢
  generalize w7.heap.size = g7 at HQ ⊢
  obtain ⟨z0, z1, z2, z3, z4, z5, z6, z7, z8, z9, z10, z11⟩ := op_cells HQ.out.2.1.1
  obtain ⟨y0, y1, y2, y3⟩ := rep_cells HQ.out.2.1.2
  obtain ⟨u0, u1, u2, u3, u4, u5, u6, u7, u8, u9, u10, u11⟩ := op_cells HQ.out.2.2.1
  obtain ⟨v0, v1, v2, v3⟩ := rep_cells HQ.out.2.2.2
  go_upto_region 8 with fail
  clear z0 z1 z2 z3 z4 z5 z6 z7 z8 z9 z10 z11 y0 y1 y2 y3 u0 u1 u2 u3 u4 u5 u6 u7 u8 u9 u10 u11 v0 v1 v2 v3
  have hW : WP wa.heap.size wa { asked (wNew t) o x y with rd := r5 } w8 := by
    have := HQ.out.1.2.2.1
    rw [asked_rd] at this
    exact this
  have ha : asked (wNew t) o x y = { wNew t with qs := [o.nx], l := o, a0 := x, a1 := y } := by unfold asked; rw [if_pos HT.out]; rfl
  rw [ha] at hW
  obtain ⟨gq, cap1, q1, q2⟩ := hW.asked1 rfl
  have q3 : w8.cell? ⟨w.heap.size, 6, none⟩ = some (.int .i64 o.nx) := by
    obtain ⟨_, _, _, _, _, _, h6, _⟩ := op_cells HQ.out.1.2.2.2.1
    exact h6
  dsimp only at q1
  have Q1 := Aside0.mk q1
  have Q2 := Aside0.mk q2
  have Q3 := Aside0.mk q3
  clear hW ha q1 q2
  go_upto_region 11 with fail
  clear q3
  refine wp_region_held_drew (S := fun w' => Below w8.heap.size w8 w') (by kernel_rfl) (pw_below_drewN (Below.refl _ _) 1) (fun hHeld => ?_)
  generalize w8.drew = w9 at hHeld ⊢
  refine take_at (i := 0) (v := .pointer (some ⟨wa.heap.size, 0, none⟩)) 91 rfl rfl (by kernel_rfl) (by kernel_rfl) (by kernel_rfl) (fun _ _ _ h => h) (Or.inl ⟨by rfl, fun w _ => by first | (go_simp; done) | (go_simp; with_reducible rfl) | rfl⟩) hHeld ?_
  try simp only [Act.put, List.setIfInBounds_toArray, List.set_cons_zero, List.set_cons_succ]
  refine take_at (i := 1) (v := .pointer (some ⟨wa.heap.size, 0, none⟩)) 92 rfl rfl (by kernel_rfl) (by kernel_rfl) (by kernel_rfl) (fun _ _ _ h => h) (Or.inl ⟨by rfl, fun w _ => by first | (go_simp; done) | (go_simp; with_reducible rfl) | rfl⟩) hHeld ?_
  try simp only [Act.put, List.setIfInBounds_toArray, List.set_cons_zero, List.set_cons_succ]
  refine take_at (i := 2) (v := .pointer (some ⟨wa.heap.size, 18, none⟩)) 93 rfl rfl (by kernel_rfl) (by kernel_rfl) (by kernel_rfl) (fun _ _ _ h => h) (Or.inl ⟨by rfl, fun w _ => by first | (go_simp; done) | (go_simp; with_reducible rfl) | rfl⟩) hHeld ?_
  try simp only [Act.put, List.setIfInBounds_toArray, List.set_cons_zero, List.set_cons_succ]
  refine take_at (i := 3) (v := .slice (some ⟨gq, 0, none⟩) 1 cap1) 94 rfl rfl (by kernel_rfl) (by kernel_rfl) (by kernel_rfl) (fun _ _ _ h => h) (Or.inl ⟨by rfl, fun w' hS => by have hq := pw_cell_below hS (ask_cell Q1.out); go_simp⟩) hHeld ?_
  try simp only [Act.put, List.setIfInBounds_toArray, List.set_cons_zero, List.set_cons_succ]
  refine take_at (i := 4) (v := .int .i64 1) 95 rfl rfl (by kernel_rfl) (by kernel_rfl) (by kernel_rfl) (fun _ _ _ h => h) (Or.inl ⟨by rfl, fun w _ => by first | (go_simp; done) | (go_simp; with_reducible rfl) | rfl⟩) hHeld ?_
  try simp only [Act.put, List.setIfInBounds_toArray, List.set_cons_zero, List.set_cons_succ]
  refine take_at (i := 5) (v := .bool true) 96 rfl rfl (by kernel_rfl) (by kernel_rfl) (by kernel_rfl) (fun _ _ _ h => h) (Or.inl ⟨by rfl, fun w _ => by first | (go_simp; done) | (go_simp; with_reducible rfl) | rfl⟩) hHeld ?_
  try simp only [Act.put, List.setIfInBounds_toArray, List.set_cons_zero, List.set_cons_succ]
  refine take_at (i := 6) (v := .bool true) 97 rfl rfl (by kernel_rfl) (by kernel_rfl) (by kernel_rfl) (fun _ _ _ h => h) (Or.inl ⟨by rfl, fun w _ => by first | (go_simp; done) | (go_simp; with_reducible rfl) | rfl⟩) hHeld ?_
  try simp only [Act.put, List.setIfInBounds_toArray, List.set_cons_zero, List.set_cons_succ]
  refine take_at (i := 7) (v := .pointer (some ⟨wa.heap.size, 0, none⟩)) 98 rfl rfl (by kernel_rfl) (by kernel_rfl) (by kernel_rfl) (fun _ _ _ h => h) (Or.inl ⟨by rfl, fun w _ => by first | (go_simp; done) | (go_simp; with_reducible rfl) | rfl⟩) hHeld ?_
  try simp only [Act.put, List.setIfInBounds_toArray, List.set_cons_zero, List.set_cons_succ]
  refine take_at (i := 8) (v := .pointer (some ⟨wa.heap.size, 0, none⟩)) 99 rfl rfl (by kernel_rfl) (by kernel_rfl) (by kernel_rfl) (fun _ _ _ h => h) (Or.inl ⟨by rfl, fun w _ => by first | (go_simp; done) | (go_simp; with_reducible rfl) | rfl⟩) hHeld ?_
  try simp only [Act.put, List.setIfInBounds_toArray, List.set_cons_zero, List.set_cons_succ]
  refine take_at (i := 9) (v := .pointer (some ⟨wa.heap.size, 18, none⟩)) 100 rfl rfl (by kernel_rfl) (by kernel_rfl) (by kernel_rfl) (fun _ _ _ h => h) (Or.inl ⟨by rfl, fun w _ => by first | (go_simp; done) | (go_simp; with_reducible rfl) | rfl⟩) hHeld ?_
  try simp only [Act.put, List.setIfInBounds_toArray, List.set_cons_zero, List.set_cons_succ]
  refine take_at (i := 10) (v := .slice (some ⟨gq, 0, none⟩) 1 cap1) 101 rfl rfl (by kernel_rfl) (by kernel_rfl) (by kernel_rfl) (fun _ _ _ h => h) (Or.inl ⟨by rfl, fun w' hS => by have hq := pw_cell_below hS (ask_cell Q1.out); go_simp⟩) hHeld ?_
  try simp only [Act.put, List.setIfInBounds_toArray, List.set_cons_zero, List.set_cons_succ]
  refine take_at (i := 11) (v := .pointer (some ⟨gq, 0, none⟩)) 102 rfl rfl (by kernel_rfl) (by kernel_rfl) (by kernel_rfl) (fun _ _ _ h => h) (Or.inl ⟨by rfl, fun w _ => by first | (go_simp; done) | (go_simp; with_reducible rfl) | rfl⟩) hHeld ?_
  try simp only [Act.put, List.setIfInBounds_toArray, List.set_cons_zero, List.set_cons_succ]
  refine take_at (i := 12) (v := .int .i64 o.nx) 103 rfl rfl (by kernel_rfl) (by kernel_rfl) (by kernel_rfl) (fun _ _ _ h => h) (Or.inl ⟨by rfl, fun w' hS => by have hq := pw_cell_below hS Q2.out; go_simp⟩) hHeld ?_
  try simp only [Act.put, List.setIfInBounds_toArray, List.set_cons_zero, List.set_cons_succ]
  refine take_at (i := 13) (v := .pointer (some ⟨w.heap.size, 6, none⟩)) 104 rfl rfl (by kernel_rfl) (by kernel_rfl) (by kernel_rfl) (fun _ _ _ h => h) (Or.inl ⟨by rfl, fun w _ => by first | (go_simp; done) | (go_simp; with_reducible rfl) | rfl⟩) hHeld ?_
  try simp only [Act.put, List.setIfInBounds_toArray, List.set_cons_zero, List.set_cons_succ]
  refine take_at (i := 14) (v := .int .i64 o.nx) 105 rfl rfl (by kernel_rfl) (by kernel_rfl) (by kernel_rfl) (fun _ _ _ h => h) (Or.inl ⟨by rfl, fun w' hS => by have hq := pw_cell_below hS Q3.out; go_simp⟩) hHeld ?_
  try simp only [Act.put, List.setIfInBounds_toArray, List.set_cons_zero, List.set_cons_succ]
  refine take_at (i := 15) (v := .bool true) 106 rfl rfl (by kernel_rfl) (by kernel_rfl) (by kernel_rfl) (fun _ _ _ h => h) (Or.inl ⟨by rfl, fun w _ => by first | (go_simp; done) | (go_simp; with_reducible rfl) | rfl⟩) hHeld ?_
  try simp only [Act.put, List.setIfInBounds_toArray, List.set_cons_zero, List.set_cons_succ]
  refine take_at (i := 16) (v := .bool true) 107 rfl rfl (by kernel_rfl) (by kernel_rfl) (by kernel_rfl) (fun _ _ _ h => h) (Or.inl ⟨by rfl, fun w _ => by first | (go_simp; done) | (go_simp; with_reducible rfl) | rfl⟩) hHeld ?_
  try simp only [Act.put, List.setIfInBounds_toArray, List.set_cons_zero, List.set_cons_succ]
  refine take_at (i := 17) (v := .bool true) 108 rfl rfl (by kernel_rfl) (by kernel_rfl) (by kernel_rfl) (fun _ _ _ h => h) (Or.inl ⟨by rfl, fun w _ => by first | (go_simp; done) | (go_simp; with_reducible rfl) | rfl⟩) hHeld ?_
  try simp only [Act.put, List.setIfInBounds_toArray, List.set_cons_zero, List.set_cons_succ]
  refine take_at (i := 18) (v := .pointer (some ⟨wa.heap.size, 0, none⟩)) 109 rfl rfl (by kernel_rfl) (by kernel_rfl) (by kernel_rfl) (fun _ _ _ h => h) (Or.inl ⟨by rfl, fun w _ => by first | (go_simp; done) | (go_simp; with_reducible rfl) | rfl⟩) hHeld ?_
  try simp only [Act.put, List.setIfInBounds_toArray, List.set_cons_zero, List.set_cons_succ]
  refine take_at (i := 19) (v := .pointer (some ⟨wa.heap.size, 0, none⟩)) 110 rfl rfl (by kernel_rfl) (by kernel_rfl) (by kernel_rfl) (fun _ _ _ h => h) (Or.inl ⟨by rfl, fun w _ => by first | (go_simp; done) | (go_simp; with_reducible rfl) | rfl⟩) hHeld ?_
  try simp only [Act.put, List.setIfInBounds_toArray, List.set_cons_zero, List.set_cons_succ]
  refine take_at (i := 20) (v := .pointer (some ⟨wa.heap.size, 19, none⟩)) 111 rfl rfl (by kernel_rfl) (by kernel_rfl) (by kernel_rfl) (fun _ _ _ h => h) (Or.inl ⟨by rfl, fun w _ => by first | (go_simp; done) | (go_simp; with_reducible rfl) | rfl⟩) hHeld ?_
  try simp only [Act.put, List.setIfInBounds_toArray, List.set_cons_zero, List.set_cons_succ]
  refine take_at (i := 21) (v := vOp o) 112 rfl rfl (by kernel_rfl) (by kernel_rfl) (by kernel_rfl) (fun _ _ _ h => h) (yieldsIf_load_mid (by rfl) 31 (.tmp 111) rfl wa.heap.size 19 rfl (cOp o).toList _ (fun w' hS => last_range (blk_below hS Q1.out)) Try.underlying31 rfl (by kernel_rfl)) hHeld ?_
  try simp only [Act.put, List.setIfInBounds_toArray, List.set_cons_zero, List.set_cons_succ]
  refine take_at (i := 22) (v := vOp o) 113 rfl rfl (by kernel_rfl) (by kernel_rfl) (by kernel_rfl) (fun _ _ _ h => h) (yields_blk (by rfl) 31 (.tmp 3) rfl w.heap.size _ 31 rfl _ (fun w' hS => blk_below hS HQ.out.1.2.2.2.1) Try.underlying31 rfl (by kernel_rfl)) hHeld ?_
  try simp only [Act.put, List.setIfInBounds_toArray, List.set_cons_zero, List.set_cons_succ]
  refine take_at (i := 23) (v := .bool true) 114 rfl rfl (by kernel_rfl) (by kernel_rfl) (by kernel_rfl) (fun _ _ _ h => h) (Or.inl ⟨by rfl, fun w _ => by first | (go_simp; done) | (go_simp; rfl)⟩) hHeld ?_
  try simp only [Act.put, List.setIfInBounds_toArray, List.set_cons_zero, List.set_cons_succ]
  refine take_at (i := 24) (v := .bool true) 115 rfl rfl (by kernel_rfl) (by kernel_rfl) (by kernel_rfl) (fun _ _ _ h => h) (Or.inl ⟨by rfl, fun w _ => by first | (go_simp; done) | (go_simp; with_reducible rfl) | rfl⟩) hHeld ?_
  try simp only [Act.put, List.setIfInBounds_toArray, List.set_cons_zero, List.set_cons_succ]
  refine take_at (i := 25) (v := .bool true) 116 rfl rfl (by kernel_rfl) (by kernel_rfl) (by kernel_rfl) (fun _ _ _ h => h) (Or.inl ⟨by rfl, fun w _ => by first | (go_simp; done) | (go_simp; with_reducible rfl) | rfl⟩) hHeld ?_
  try simp only [Act.put, List.setIfInBounds_toArray, List.set_cons_zero, List.set_cons_succ]
  refine take_at (i := 26) (v := .bool true) 117 rfl rfl (by kernel_rfl) (by kernel_rfl) (by kernel_rfl) (fun _ _ _ h => h) (Or.inl ⟨by rfl, fun w _ => by first | (go_simp; done) | (go_simp; with_reducible rfl) | rfl⟩) hHeld ?_
  try simp only [Act.put, List.setIfInBounds_toArray, List.set_cons_zero, List.set_cons_succ]
  refine take_at (i := 27) (v := .bool false) 118 rfl rfl (by kernel_rfl) (by kernel_rfl) (by kernel_rfl) (fun _ _ _ h => h) (Or.inl ⟨by rfl, fun w _ => by first | (go_simp; done) | (go_simp; with_reducible rfl) | rfl⟩) hHeld ?_
  try simp only [Act.put, List.setIfInBounds_toArray, List.set_cons_zero, List.set_cons_succ]
  refine take_at (i := 28) (v := .bool false) 119 rfl rfl (by kernel_rfl) (by kernel_rfl) (by kernel_rfl) (fun _ _ _ h => h) (Or.inl ⟨by rfl, fun w _ => by first | (go_simp; done) | (go_simp; with_reducible rfl) | rfl⟩) hHeld ?_
  try simp only [Act.put, List.setIfInBounds_toArray, List.set_cons_zero, List.set_cons_succ]
  refine take_at (i := 29) (v := .pointer (some ⟨wa.heap.size, 0, none⟩)) 120 rfl rfl (by kernel_rfl) (by kernel_rfl) (by kernel_rfl) (fun _ _ _ h => h) (Or.inl ⟨by rfl, fun w _ => by first | (go_simp; done) | (go_simp; with_reducible rfl) | rfl⟩) hHeld ?_
  try simp only [Act.put, List.setIfInBounds_toArray, List.set_cons_zero, List.set_cons_succ]
  refine take_at (i := 30) (v := .pointer (some ⟨wa.heap.size, 0, none⟩)) 121 rfl rfl (by kernel_rfl) (by kernel_rfl) (by kernel_rfl) (fun _ _ _ h => h) (Or.inl ⟨by rfl, fun w _ => by first | (go_simp; done) | (go_simp; with_reducible rfl) | rfl⟩) hHeld ?_
  try simp only [Act.put, List.setIfInBounds_toArray, List.set_cons_zero, List.set_cons_succ]
  refine take_at (i := 31) (v := .pointer (some ⟨wa.heap.size, 31, none⟩)) 122 rfl rfl (by kernel_rfl) (by kernel_rfl) (by kernel_rfl) (fun _ _ _ h => h) (Or.inl ⟨by rfl, fun w _ => by first | (go_simp; done) | (go_simp; with_reducible rfl) | rfl⟩) hHeld ?_
  try simp only [Act.put, List.setIfInBounds_toArray, List.set_cons_zero, List.set_cons_succ]
  refine take_at (i := 32) (v := .agg #[.int .i64 x, .int .i64 y]) 123 rfl rfl (by kernel_rfl) (by kernel_rfl) (by kernel_rfl) (fun _ _ _ h => h) (yieldsIf_load_mid (by rfl) 48 (.tmp 122) rfl wa.heap.size 31 rfl [.int .i64 x, .int .i64 y] _ (fun w' hS => at_range (blk_below hS Q1.out)) Try.underlying48 rfl (by kernel_rfl)) hHeld ?_
  try simp only [Act.put, List.setIfInBounds_toArray, List.set_cons_zero, List.set_cons_succ]
  refine take_at (i := 33) (v := .agg #[.int .i64 x, .int .i64 y]) 124 rfl rfl (by kernel_rfl) (by kernel_rfl) (by kernel_rfl) (fun _ _ _ h => h) (yields_blk (by rfl) 48 (.tmp 5) rfl (w.heap.size + 1 + 1) _ 48 rfl _ (fun w' hS => blk_below hS HQ.out.1.2.2.2.2.2) Try.underlying48 rfl (by kernel_rfl)) hHeld ?_
  try simp only [Act.put, List.setIfInBounds_toArray, List.set_cons_zero, List.set_cons_succ]
  refine take_at (i := 34) (v := .bool true) 125 rfl rfl (by kernel_rfl) (by kernel_rfl) (by kernel_rfl) (fun _ _ _ h => h) (Or.inl ⟨by rfl, fun w _ => by first | (go_simp; done) | (go_simp; rfl)⟩) hHeld ?_
  try simp only [Act.put, List.setIfInBounds_toArray, List.set_cons_zero, List.set_cons_succ]
  refine take_at (i := 35) (v := .bool true) 126 rfl rfl (by kernel_rfl) (by kernel_rfl) (by kernel_rfl) (fun _ _ _ h => h) (Or.inl ⟨by rfl, fun w _ => by first | (go_simp; done) | (go_simp; with_reducible rfl) | rfl⟩) hHeld ?_
  try simp only [Act.put, List.setIfInBounds_toArray, List.set_cons_zero, List.set_cons_succ]
  refine take_at (i := 36) (v := .bool true) 127 rfl rfl (by kernel_rfl) (by kernel_rfl) (by kernel_rfl) (fun _ _ _ h => h) (Or.inl ⟨by rfl, fun w _ => by first | (go_simp; done) | (go_simp; with_reducible rfl) | rfl⟩) hHeld ?_
  try simp only [Act.put, List.setIfInBounds_toArray, List.set_cons_zero, List.set_cons_succ]
  refine take_at (i := 37) (v := .bool true) 128 rfl rfl (by kernel_rfl) (by kernel_rfl) (by kernel_rfl) (fun _ _ _ h => h) (Or.inl ⟨by rfl, fun w _ => by first | (go_simp; done) | (go_simp; with_reducible rfl) | rfl⟩) hHeld ?_
  try simp only [Act.put, List.setIfInBounds_toArray, List.set_cons_zero, List.set_cons_succ]
  refine wpAnyH_ready (rs := [38]) (by kernel_rfl) (by simp) ?_
  refine AllReadyH.cons rfl (fun K hK => ?_) AllReadyH.nil
  go_simp
  go_wp2_with (first | (go_at_call 14; refine (alive_calls _).mono ?_; rintro e10 w10 ⟨rfl, hb10⟩; have HF := Aside0.mk (below_step hHeld hb10); clear hb10))
  clear hHeld
  refine hK.out _ _ (HF.out) (fun hHeld => ?_)
  clear hK K
  try simp only [Act.put, List.setIfInBounds_toArray, List.set_cons_zero, List.set_cons_succ]
  refine take_at (i := 39) (v := .bool true) 130 rfl rfl (by kernel_rfl) (by kernel_rfl) (by kernel_rfl) (fun _ _ _ h => h) (Or.inl ⟨by rfl, fun w _ => by first | (go_simp; done) | (go_simp; with_reducible rfl) | rfl⟩) hHeld ?_
  try simp only [Act.put, List.setIfInBounds_toArray, List.set_cons_zero, List.set_cons_succ]
  refine take_at (i := 40) (v := .bool true) 6 rfl rfl (by kernel_rfl) (by kernel_rfl) (by kernel_rfl) (fun _ _ _ h => h) (Or.inl ⟨by rfl, fun w _ => by first | (go_simp; done) | (go_simp; with_reducible rfl) | rfl⟩) hHeld ?_
  try simp only [Act.put, List.setIfInBounds_toArray, List.set_cons_zero, List.set_cons_succ]
  refine wpAnyH_done (by kernel_rfl) ?_ _
  go_wp2
  go_ret
  exact ⟨rfl, below_step HQ.out.1.out HF.out⟩
attribute [local go_sem high] eqA31 eqA44 eqA48
set_option maxRecDepth 100000 in
set_option maxHeartbeats 4000000 in
theorem StepDoes_4 (o : SOp) (t : STold) (x y : Int) (w : World) (O : SOp) (R : SRep) (b : Bool) (e : Int) (hD : doR t o = (O, R, b, e)) (he : e = 0) (hn : o.nx = 4) : Calls Try.prog 4 #[vOp o, vTold t, .agg #[.int .i64 x, .int .i64 y]] w fun e w' => e = .returned (.bool true) ∧ Below w.heap.size w w' := by
  have HD := Aside0.mk hD
  clear hD
  subst he
  have hn1 : (o.nx == 1) = false := by rw [hn]; rfl
  have hn4 : (o.nx == 4) = true := beq_iff_eq.mpr hn
  have HT : Aside0 (o.nx = 1 ∨ o.nx = 4) := ⟨.inr hn⟩
  clear hn
  go_enter Try.func4, Try.ntmps4
  go_upto_region 1 with fail
  have HX0 : Aside0 (Below w.heap.size w (((w.alloc (.cells (cOp o) 31)).alloc (.cells (cTold t) 46)).alloc (.cells #[.int .i64 x, .int .i64 y] 48)) ∧ w.heap.size + 1 + 1 < (((w.alloc (.cells (cOp o) 31)).alloc (.cells (cTold t) 46)).alloc (.cells #[.int .i64 x, .int .i64 y] 48)).heap.size ∧ LB w.heap.size t o x y (((w.alloc (.cells (cOp o) 31)).alloc (.cells (cTold t) 46)).alloc (.cells #[.int .i64 x, .int .i64 y] 48))) := ⟨below_alloc (below_alloc (below_alloc (Below.refl _ _) _) _) _, by simp only [World.size_alloc]; omega, LB.start w t o x y⟩
  change Code.wp Try.prog _ _ _ (((w.alloc (.cells (cOp o) 31)).alloc (.cells (cTold t) 46)).alloc (.cells #[.int .i64 x, .int .i64 y] 48))
  generalize ((w.alloc (.cells (cOp o) 31)).alloc (.cells (cTold t) 46)).alloc (.cells #[.int .i64 x, .int .i64 y] 48) = wa at HX0 ⊢
  go_upto_region 2 with (first | ((with_reducible refine gate_ (.load 46 (.tmp 4)) rfl ?_); refine load_blk rfl 46 (.tmp 4) rfl (w.heap.size + 1) _ 46 rfl _ HX0.out.2.2.2.1 Try.underlying46 rfl (by kernel_rfl) ?_))
  have HX : Aside0 (LW w wa (wNew t) t o x y (wa.alloc (.cells (wCells t (.slice none 0 0) SOp.zero 0 0 0) 51))) := ⟨HX0.out.1, HX0.out.2.1, WP.new wa t, HX0.out.2.2.below (below_alloc (Below.refl _ _) _)⟩
  change Code.wp Try.prog _ _ _ (wa.alloc (.cells (wCells t (.slice none 0 0) SOp.zero 0 0 0) 51))
  clear HX0
  generalize wa.alloc (.cells (wCells t (.slice none 0 0) SOp.zero 0 0 0) 51) = wb at HX ⊢
  refine wp_region_held_drew (S := LB w.heap.size t o x y) (by kernel_rfl) HX.out.2.2.2 (fun hHeld => ?_)
  have HX1 : Aside0 (LW w wa (wNew t) t o x y wb.drew) := ⟨HX.out.below (pw_below_drewN (Below.refl _ _) 1)⟩
  generalize wb.drew = wc at HX1 hHeld ⊢
  refine take_at (i := 0) (v := .pointer (some ⟨wa.heap.size, 0, none⟩)) 20 rfl rfl (by kernel_rfl) (by kernel_rfl) (by kernel_rfl) (fun _ _ _ h => h) (Or.inl ⟨by rfl, fun w _ => by first | (go_simp; done) | (go_simp; with_reducible rfl) | rfl⟩) hHeld ?_
  try simp only [Act.put, List.setIfInBounds_toArray, List.set_cons_zero, List.set_cons_succ]
  refine take_at (i := 1) (v := vW wa.heap.size) 21 rfl rfl (by kernel_rfl) (by kernel_rfl) (by kernel_rfl) (fun _ _ _ h => h) (Or.inl ⟨by rfl, fun w _ => by first | (go_simp; done) | (go_simp; with_reducible rfl) | rfl⟩) hHeld ?_
  try simp only [Act.put, List.setIfInBounds_toArray, List.set_cons_zero, List.set_cons_succ]
  refine take_at (i := 2) (v := vOp o) 22 rfl rfl (by kernel_rfl) (by kernel_rfl) (by kernel_rfl) (fun _ _ _ h => h) (yields_blk (by rfl) 31 (.tmp 3) rfl w.heap.size _ 31 rfl _ (fun w h => h.1) Try.underlying31 rfl (by kernel_rfl)) hHeld ?_
  try simp only [Act.put, List.setIfInBounds_toArray, List.set_cons_zero, List.set_cons_succ]
  refine take_at (i := 4) (v := vTold t) 24 rfl rfl (by kernel_rfl) (by kernel_rfl) (by kernel_rfl) (fun _ _ _ h => h) (yields_blk (by rfl) 46 (.tmp 4) rfl (w.heap.size + 1) _ 46 rfl _ (fun w h => h.2.1) Try.underlying46 rfl (by kernel_rfl)) hHeld ?_
  try simp only [Act.put, List.setIfInBounds_toArray, List.set_cons_zero, List.set_cons_succ]
  refine take_at (i := 5) (v := vOp o) 25 rfl rfl (by kernel_rfl) (by kernel_rfl) (by kernel_rfl) (fun _ _ _ h => h) (yields_blk (by rfl) 31 (.tmp 3) rfl w.heap.size _ 31 rfl _ (fun w h => h.1) Try.underlying31 rfl (by kernel_rfl)) hHeld ?_
  try simp only [Act.put, List.setIfInBounds_toArray, List.set_cons_zero, List.set_cons_succ]
  refine wpAnyH_ready (rs := [3]) (by kernel_rfl) (by simp) ?_
  refine AllReadyH.cons rfl (fun K hK => ?_) AllReadyH.nil
  go_simp
  go_wp2_with (first | (go_at_call 15; refine (Enabled_new wa.heap.size t o wa _ HX1.out.2.2.1).mono ?_; rintro e3 w3 ⟨rfl, ⟨r3, hw3⟩, hk3⟩; have HY := Aside0.mk (HX1.out.kb hw3 hk3); clear hw3 hk3))
  clear hHeld
  refine hK.out _ _ (HY.out.2.2.2) (fun hHeld => ?_)
  clear hK K
  try simp only [Act.put, List.setIfInBounds_toArray, List.set_cons_zero, List.set_cons_succ]
  refine wpAnyH_ready (rs := [6]) (by kernel_rfl) (by simp) ?_
  refine AllReadyH.cons rfl (fun K hK => ?_) AllReadyH.nil
  go_simp
  go_wp2_with (first | (go_at_call 16; refine (rampartref17_Enabled.calls 10 t.rep.c t.rep.a t.rep.h t.rep.p t.op.n t.op.k t.op.a t.op.r t.op.h t.op.p t.op.nx t.op.ch t.op.ln t.op.sq t.op.ep t.op.pl t.code t.ready o.n o.k o.a o.r o.h o.p o.nx o.ch o.ln o.sq o.ep o.pl (enb t.ready o) _ (renb_ok t o)).mono ?_; rintro e4 w4 ⟨rfl, hb4⟩; have HZ := Aside0.mk (HY.out.below hb4); clear hb4))
  clear hHeld
  refine hK.out _ _ (HZ.out.2.2.2) (fun hHeld => ?_)
  clear hK K
  try simp only [Act.put, List.setIfInBounds_toArray, List.set_cons_zero, List.set_cons_succ]
  refine take_at (i := 7) (v := .bool false) 27 rfl rfl (by kernel_rfl) (by kernel_rfl) (by kernel_rfl) (fun _ _ _ h => h) (Or.inl ⟨by rfl, fun w _ => by cases enb t.ready o <;> (first | (go_simp; done) | (go_simp; with_reducible rfl) | rfl)⟩) hHeld ?_
  try simp only [Act.put, List.setIfInBounds_toArray, List.set_cons_zero, List.set_cons_succ]
  refine take_at (i := 8) (v := .bool false) 28 rfl rfl (by kernel_rfl) (by kernel_rfl) (by kernel_rfl) (fun _ _ _ h => h) (Or.inl ⟨by rfl, fun w _ => by first | (go_simp; done) | (go_simp; with_reducible rfl) | rfl⟩) hHeld ?_
  try simp only [Act.put, List.setIfInBounds_toArray, List.set_cons_zero, List.set_cons_succ]
  refine take_at (i := 9) (v := .pointer (some ⟨wa.heap.size, 0, none⟩)) 29 rfl rfl (by kernel_rfl) (by kernel_rfl) (by kernel_rfl) (fun _ _ _ h => h) (Or.inl ⟨by rfl, fun w _ => by first | (go_simp; done) | (go_simp; with_reducible rfl) | rfl⟩) hHeld ?_
  try simp only [Act.put, List.setIfInBounds_toArray, List.set_cons_zero, List.set_cons_succ]
  refine take_at (i := 10) (v := .pointer (some ⟨wa.heap.size, 0, none⟩)) 30 rfl rfl (by kernel_rfl) (by kernel_rfl) (by kernel_rfl) (fun _ _ _ h => h) (Or.inl ⟨by rfl, fun w _ => by first | (go_simp; done) | (go_simp; with_reducible rfl) | rfl⟩) hHeld ?_
  try simp only [Act.put, List.setIfInBounds_toArray, List.set_cons_zero, List.set_cons_succ]
  refine take_at (i := 11) (v := .pointer (some ⟨wa.heap.size, 18, none⟩)) 31 rfl rfl (by kernel_rfl) (by kernel_rfl) (by kernel_rfl) (fun _ _ _ h => h) (Or.inl ⟨by rfl, fun w _ => by first | (go_simp; done) | (go_simp; with_reducible rfl) | rfl⟩) hHeld ?_
  try simp only [Act.put, List.setIfInBounds_toArray, List.set_cons_zero, List.set_cons_succ]
  obtain ⟨A0, cap0, q0⟩ := HZ.out.2.2.1.asked0 rfl
  refine wpAnyH_ready (rs := [12]) (by kernel_rfl) (by simp) ?_
  refine AllReadyH.cons rfl (fun K hK => ?_) AllReadyH.nil
  go_simp
  clear hHeld
  refine hK.out _ _ (HZ.out.2.2.2) (fun hHeld => ?_)
  clear hK K
  try simp only [Act.put, List.setIfInBounds_toArray, List.set_cons_zero, List.set_cons_succ]
  refine take_at (i := 13) (v := .int .i64 0) 33 rfl rfl (by kernel_rfl) (by kernel_rfl) (by kernel_rfl) (fun _ _ _ h => h) (Or.inl ⟨by rfl, fun w _ => by first | (go_simp; done) | (go_simp; with_reducible rfl) | rfl⟩) hHeld ?_
  try simp only [Act.put, List.setIfInBounds_toArray, List.set_cons_zero, List.set_cons_succ]
  refine take_at (i := 14) (v := .bool false) 34 rfl rfl (by kernel_rfl) (by kernel_rfl) (by kernel_rfl) (fun _ _ _ h => h) (Or.inl ⟨by rfl, fun w _ => by first | (go_simp; done) | (go_simp; with_reducible rfl) | rfl⟩) hHeld ?_
  try simp only [Act.put, List.setIfInBounds_toArray, List.set_cons_zero, List.set_cons_succ]
  refine take_at (i := 15) (v := .bool false) 35 rfl rfl (by kernel_rfl) (by kernel_rfl) (by kernel_rfl) (fun _ _ _ h => h) (Or.inl ⟨by rfl, fun w _ => by first | (go_simp; done) | (go_simp; with_reducible rfl) | rfl⟩) hHeld ?_
  try simp only [Act.put, List.setIfInBounds_toArray, List.set_cons_zero, List.set_cons_succ]
  refine wpAnyH_done (by kernel_rfl) ?_ _
  clear hHeld q0
  go_upto_region 5 with (first | ((with_reducible refine gate_ (.load 31 (.tmp 3)) rfl ?_); refine load_blk rfl 31 (.tmp 3) rfl w.heap.size _ 31 rfl _ HZ.out.2.2.2.1 Try.underlying31 rfl (by kernel_rfl) ?_) | ((with_reducible refine gate_ (.load 48 (.tmp 5)) rfl ?_); refine load_blk rfl 48 (.tmp 5) rfl (w.heap.size + 1 + 1) _ 48 rfl _ HZ.out.2.2.2.2.2 Try.underlying48 rfl (by kernel_rfl) ?_) | (go_at_call 17; refine (Do_calls' wa.heap.size { wNew t with rd := r3 } o x y O R b _ HD.out wa _ HZ.out.2.2.1 (by show 0 < 1000; omega)).mono ?_; rintro e5 w5 ⟨rfl, ⟨r5, hw5⟩, hk5⟩; have HU := Aside0.mk (HZ.out.kb hw5 hk5); clear hw5 hk5))
  change Code.wp Try.prog _ _ _ ((w5.alloc (.cells (cOp O) 31)).alloc (.cells (cRep R) 44))
  have HV := Aside0.mk (And.intro (HU.out.below (below2 w5 (.cells (cOp O) 31) (.cells (cRep R) 44))) (S2.new w5 O R))
  clear HX HX1 HY HZ HU
  generalize ((w5.alloc (.cells (cOp O) 31)).alloc (.cells (cRep R) 44)) = w6 at HV ⊢
  generalize w5.heap.size = g5 at HV ⊢
  go_upto_region 6 with (first | ((with_reducible refine gate_ (.load 31 (.tmp 3)) rfl ?_); refine load_blk rfl 31 (.tmp 3) rfl w.heap.size _ 31 rfl _ HV.out.1.2.2.2.1 Try.underlying31 rfl (by kernel_rfl) ?_) | ((with_reducible refine gate_ (.load 46 (.tmp 4)) rfl ?_); refine load_blk rfl 46 (.tmp 4) rfl (w.heap.size + 1) _ 46 rfl _ HV.out.1.2.2.2.2.1 Try.underlying46 rfl (by kernel_rfl) ?_) | (go_at_call 18; refine (RDo_calls' t o O R b _ HD.out _).mono ?_; rintro e7 w7 ⟨rfl, hb7⟩; have HW := Aside0.mk (And.intro (HV.out.1.below hb7) (HV.out.2.below hb7)); clear hb7))
  change Code.wp Try.prog _ _ _ ((w7.alloc (.cells (cOp O) 31)).alloc (.cells (cRep R) 44))
  have HQ := Aside0.mk (And.intro (HW.out.1.below (below2 w7 (.cells (cOp O) 31) (.cells (cRep R) 44))) (And.intro (HW.out.2.below (below2 w7 (.cells (cOp O) 31) (.cells (cRep R) 44))) (S2.new w7 O R)))
  clear HV HW
  generalize ((w7.alloc (.cells (cOp O) 31)).alloc (.cells (cRep R) 44)) = w8 at HQ ⊢
  generalize w7.heap.size = g7 at HQ ⊢
  obtain ⟨z0, z1, z2, z3, z4, z5, z6, z7, z8, z9, z10, z11⟩ := op_cells HQ.out.2.1.1
  obtain ⟨y0, y1, y2, y3⟩ := rep_cells HQ.out.2.1.2
  obtain ⟨u0, u1, u2, u3, u4, u5, u6, u7, u8, u9, u10, u11⟩ := op_cells HQ.out.2.2.1
  obtain ⟨v0, v1, v2, v3⟩ := rep_cells HQ.out.2.2.2
  go_upto_region 8 with fail
  clear z0 z1 z2 z3 z4 z5 z6 z7 z8 z9 z10 z11 y0 y1 y2 y3 u0 u1 u2 u3 u4 u5 u6 u7 u8 u9 u10 u11 v0 v1 v2 v3
  have hW : WP wa.heap.size wa { asked (wNew t) o x y with rd := r5 } w8 := by
    have := HQ.out.1.2.2.1
    rw [asked_rd] at this
    exact this
  have ha : asked (wNew t) o x y = { wNew t with qs := [o.nx], l := o, a0 := x, a1 := y } := by unfold asked; rw [if_pos HT.out]; rfl
  rw [ha] at hW
  obtain ⟨gq, cap1, q1, q2⟩ := hW.asked1 rfl
  have q3 : w8.cell? ⟨w.heap.size, 6, none⟩ = some (.int .i64 o.nx) := by
    obtain ⟨_, _, _, _, _, _, h6, _⟩ := op_cells HQ.out.1.2.2.2.1
    exact h6
  dsimp only at q1
  have Q1 := Aside0.mk q1
  have Q2 := Aside0.mk q2
  have Q3 := Aside0.mk q3
  clear hW ha q1 q2
  go_upto_region 11 with fail
  clear q3
  refine wp_region_held_drew (S := fun w' => Below w8.heap.size w8 w') (by kernel_rfl) (pw_below_drewN (Below.refl _ _) 1) (fun hHeld => ?_)
  generalize w8.drew = w9 at hHeld ⊢
  refine take_at (i := 0) (v := .pointer (some ⟨wa.heap.size, 0, none⟩)) 91 rfl rfl (by kernel_rfl) (by kernel_rfl) (by kernel_rfl) (fun _ _ _ h => h) (Or.inl ⟨by rfl, fun w _ => by first | (go_simp; done) | (go_simp; with_reducible rfl) | rfl⟩) hHeld ?_
  try simp only [Act.put, List.setIfInBounds_toArray, List.set_cons_zero, List.set_cons_succ]
  refine take_at (i := 1) (v := .pointer (some ⟨wa.heap.size, 0, none⟩)) 92 rfl rfl (by kernel_rfl) (by kernel_rfl) (by kernel_rfl) (fun _ _ _ h => h) (Or.inl ⟨by rfl, fun w _ => by first | (go_simp; done) | (go_simp; with_reducible rfl) | rfl⟩) hHeld ?_
  try simp only [Act.put, List.setIfInBounds_toArray, List.set_cons_zero, List.set_cons_succ]
  refine take_at (i := 2) (v := .pointer (some ⟨wa.heap.size, 18, none⟩)) 93 rfl rfl (by kernel_rfl) (by kernel_rfl) (by kernel_rfl) (fun _ _ _ h => h) (Or.inl ⟨by rfl, fun w _ => by first | (go_simp; done) | (go_simp; with_reducible rfl) | rfl⟩) hHeld ?_
  try simp only [Act.put, List.setIfInBounds_toArray, List.set_cons_zero, List.set_cons_succ]
  refine take_at (i := 3) (v := .slice (some ⟨gq, 0, none⟩) 1 cap1) 94 rfl rfl (by kernel_rfl) (by kernel_rfl) (by kernel_rfl) (fun _ _ _ h => h) (Or.inl ⟨by rfl, fun w' hS => by have hq := pw_cell_below hS (ask_cell Q1.out); go_simp⟩) hHeld ?_
  try simp only [Act.put, List.setIfInBounds_toArray, List.set_cons_zero, List.set_cons_succ]
  refine take_at (i := 4) (v := .int .i64 1) 95 rfl rfl (by kernel_rfl) (by kernel_rfl) (by kernel_rfl) (fun _ _ _ h => h) (Or.inl ⟨by rfl, fun w _ => by first | (go_simp; done) | (go_simp; with_reducible rfl) | rfl⟩) hHeld ?_
  try simp only [Act.put, List.setIfInBounds_toArray, List.set_cons_zero, List.set_cons_succ]
  refine take_at (i := 5) (v := .bool true) 96 rfl rfl (by kernel_rfl) (by kernel_rfl) (by kernel_rfl) (fun _ _ _ h => h) (Or.inl ⟨by rfl, fun w _ => by first | (go_simp; done) | (go_simp; with_reducible rfl) | rfl⟩) hHeld ?_
  try simp only [Act.put, List.setIfInBounds_toArray, List.set_cons_zero, List.set_cons_succ]
  refine take_at (i := 6) (v := .bool true) 97 rfl rfl (by kernel_rfl) (by kernel_rfl) (by kernel_rfl) (fun _ _ _ h => h) (Or.inl ⟨by rfl, fun w _ => by first | (go_simp; done) | (go_simp; with_reducible rfl) | rfl⟩) hHeld ?_
  try simp only [Act.put, List.setIfInBounds_toArray, List.set_cons_zero, List.set_cons_succ]
  refine take_at (i := 7) (v := .pointer (some ⟨wa.heap.size, 0, none⟩)) 98 rfl rfl (by kernel_rfl) (by kernel_rfl) (by kernel_rfl) (fun _ _ _ h => h) (Or.inl ⟨by rfl, fun w _ => by first | (go_simp; done) | (go_simp; with_reducible rfl) | rfl⟩) hHeld ?_
  try simp only [Act.put, List.setIfInBounds_toArray, List.set_cons_zero, List.set_cons_succ]
  refine take_at (i := 8) (v := .pointer (some ⟨wa.heap.size, 0, none⟩)) 99 rfl rfl (by kernel_rfl) (by kernel_rfl) (by kernel_rfl) (fun _ _ _ h => h) (Or.inl ⟨by rfl, fun w _ => by first | (go_simp; done) | (go_simp; with_reducible rfl) | rfl⟩) hHeld ?_
  try simp only [Act.put, List.setIfInBounds_toArray, List.set_cons_zero, List.set_cons_succ]
  refine take_at (i := 9) (v := .pointer (some ⟨wa.heap.size, 18, none⟩)) 100 rfl rfl (by kernel_rfl) (by kernel_rfl) (by kernel_rfl) (fun _ _ _ h => h) (Or.inl ⟨by rfl, fun w _ => by first | (go_simp; done) | (go_simp; with_reducible rfl) | rfl⟩) hHeld ?_
  try simp only [Act.put, List.setIfInBounds_toArray, List.set_cons_zero, List.set_cons_succ]
  refine take_at (i := 10) (v := .slice (some ⟨gq, 0, none⟩) 1 cap1) 101 rfl rfl (by kernel_rfl) (by kernel_rfl) (by kernel_rfl) (fun _ _ _ h => h) (Or.inl ⟨by rfl, fun w' hS => by have hq := pw_cell_below hS (ask_cell Q1.out); go_simp⟩) hHeld ?_
  try simp only [Act.put, List.setIfInBounds_toArray, List.set_cons_zero, List.set_cons_succ]
  refine take_at (i := 11) (v := .pointer (some ⟨gq, 0, none⟩)) 102 rfl rfl (by kernel_rfl) (by kernel_rfl) (by kernel_rfl) (fun _ _ _ h => h) (Or.inl ⟨by rfl, fun w _ => by first | (go_simp; done) | (go_simp; with_reducible rfl) | rfl⟩) hHeld ?_
  try simp only [Act.put, List.setIfInBounds_toArray, List.set_cons_zero, List.set_cons_succ]
  refine take_at (i := 12) (v := .int .i64 o.nx) 103 rfl rfl (by kernel_rfl) (by kernel_rfl) (by kernel_rfl) (fun _ _ _ h => h) (Or.inl ⟨by rfl, fun w' hS => by have hq := pw_cell_below hS Q2.out; go_simp⟩) hHeld ?_
  try simp only [Act.put, List.setIfInBounds_toArray, List.set_cons_zero, List.set_cons_succ]
  refine take_at (i := 13) (v := .pointer (some ⟨w.heap.size, 6, none⟩)) 104 rfl rfl (by kernel_rfl) (by kernel_rfl) (by kernel_rfl) (fun _ _ _ h => h) (Or.inl ⟨by rfl, fun w _ => by first | (go_simp; done) | (go_simp; with_reducible rfl) | rfl⟩) hHeld ?_
  try simp only [Act.put, List.setIfInBounds_toArray, List.set_cons_zero, List.set_cons_succ]
  refine take_at (i := 14) (v := .int .i64 o.nx) 105 rfl rfl (by kernel_rfl) (by kernel_rfl) (by kernel_rfl) (fun _ _ _ h => h) (Or.inl ⟨by rfl, fun w' hS => by have hq := pw_cell_below hS Q3.out; go_simp⟩) hHeld ?_
  try simp only [Act.put, List.setIfInBounds_toArray, List.set_cons_zero, List.set_cons_succ]
  refine take_at (i := 15) (v := .bool true) 106 rfl rfl (by kernel_rfl) (by kernel_rfl) (by kernel_rfl) (fun _ _ _ h => h) (Or.inl ⟨by rfl, fun w _ => by first | (go_simp; done) | (go_simp; with_reducible rfl) | rfl⟩) hHeld ?_
  try simp only [Act.put, List.setIfInBounds_toArray, List.set_cons_zero, List.set_cons_succ]
  refine take_at (i := 16) (v := .bool true) 107 rfl rfl (by kernel_rfl) (by kernel_rfl) (by kernel_rfl) (fun _ _ _ h => h) (Or.inl ⟨by rfl, fun w _ => by first | (go_simp; done) | (go_simp; with_reducible rfl) | rfl⟩) hHeld ?_
  try simp only [Act.put, List.setIfInBounds_toArray, List.set_cons_zero, List.set_cons_succ]
  refine take_at (i := 17) (v := .bool true) 108 rfl rfl (by kernel_rfl) (by kernel_rfl) (by kernel_rfl) (fun _ _ _ h => h) (Or.inl ⟨by rfl, fun w _ => by first | (go_simp; done) | (go_simp; with_reducible rfl) | rfl⟩) hHeld ?_
  try simp only [Act.put, List.setIfInBounds_toArray, List.set_cons_zero, List.set_cons_succ]
  refine take_at (i := 18) (v := .pointer (some ⟨wa.heap.size, 0, none⟩)) 109 rfl rfl (by kernel_rfl) (by kernel_rfl) (by kernel_rfl) (fun _ _ _ h => h) (Or.inl ⟨by rfl, fun w _ => by first | (go_simp; done) | (go_simp; with_reducible rfl) | rfl⟩) hHeld ?_
  try simp only [Act.put, List.setIfInBounds_toArray, List.set_cons_zero, List.set_cons_succ]
  refine take_at (i := 19) (v := .pointer (some ⟨wa.heap.size, 0, none⟩)) 110 rfl rfl (by kernel_rfl) (by kernel_rfl) (by kernel_rfl) (fun _ _ _ h => h) (Or.inl ⟨by rfl, fun w _ => by first | (go_simp; done) | (go_simp; with_reducible rfl) | rfl⟩) hHeld ?_
  try simp only [Act.put, List.setIfInBounds_toArray, List.set_cons_zero, List.set_cons_succ]
  refine take_at (i := 20) (v := .pointer (some ⟨wa.heap.size, 19, none⟩)) 111 rfl rfl (by kernel_rfl) (by kernel_rfl) (by kernel_rfl) (fun _ _ _ h => h) (Or.inl ⟨by rfl, fun w _ => by first | (go_simp; done) | (go_simp; with_reducible rfl) | rfl⟩) hHeld ?_
  try simp only [Act.put, List.setIfInBounds_toArray, List.set_cons_zero, List.set_cons_succ]
  refine take_at (i := 21) (v := vOp o) 112 rfl rfl (by kernel_rfl) (by kernel_rfl) (by kernel_rfl) (fun _ _ _ h => h) (yieldsIf_load_mid (by rfl) 31 (.tmp 111) rfl wa.heap.size 19 rfl (cOp o).toList _ (fun w' hS => last_range (blk_below hS Q1.out)) Try.underlying31 rfl (by kernel_rfl)) hHeld ?_
  try simp only [Act.put, List.setIfInBounds_toArray, List.set_cons_zero, List.set_cons_succ]
  refine take_at (i := 22) (v := vOp o) 113 rfl rfl (by kernel_rfl) (by kernel_rfl) (by kernel_rfl) (fun _ _ _ h => h) (yields_blk (by rfl) 31 (.tmp 3) rfl w.heap.size _ 31 rfl _ (fun w' hS => blk_below hS HQ.out.1.2.2.2.1) Try.underlying31 rfl (by kernel_rfl)) hHeld ?_
  try simp only [Act.put, List.setIfInBounds_toArray, List.set_cons_zero, List.set_cons_succ]
  refine take_at (i := 23) (v := .bool true) 114 rfl rfl (by kernel_rfl) (by kernel_rfl) (by kernel_rfl) (fun _ _ _ h => h) (Or.inl ⟨by rfl, fun w _ => by first | (go_simp; done) | (go_simp; rfl)⟩) hHeld ?_
  try simp only [Act.put, List.setIfInBounds_toArray, List.set_cons_zero, List.set_cons_succ]
  refine take_at (i := 24) (v := .bool true) 115 rfl rfl (by kernel_rfl) (by kernel_rfl) (by kernel_rfl) (fun _ _ _ h => h) (Or.inl ⟨by rfl, fun w _ => by first | (go_simp; done) | (go_simp; with_reducible rfl) | rfl⟩) hHeld ?_
  try simp only [Act.put, List.setIfInBounds_toArray, List.set_cons_zero, List.set_cons_succ]
  refine take_at (i := 25) (v := .bool true) 116 rfl rfl (by kernel_rfl) (by kernel_rfl) (by kernel_rfl) (fun _ _ _ h => h) (Or.inl ⟨by rfl, fun w _ => by first | (go_simp; done) | (go_simp; with_reducible rfl) | rfl⟩) hHeld ?_
  try simp only [Act.put, List.setIfInBounds_toArray, List.set_cons_zero, List.set_cons_succ]
  refine take_at (i := 26) (v := .bool true) 117 rfl rfl (by kernel_rfl) (by kernel_rfl) (by kernel_rfl) (fun _ _ _ h => h) (Or.inl ⟨by rfl, fun w _ => by first | (go_simp; done) | (go_simp; with_reducible rfl) | rfl⟩) hHeld ?_
  try simp only [Act.put, List.setIfInBounds_toArray, List.set_cons_zero, List.set_cons_succ]
  refine take_at (i := 27) (v := .bool false) 118 rfl rfl (by kernel_rfl) (by kernel_rfl) (by kernel_rfl) (fun _ _ _ h => h) (Or.inl ⟨by rfl, fun w _ => by first | (go_simp; done) | (go_simp; with_reducible rfl) | rfl⟩) hHeld ?_
  try simp only [Act.put, List.setIfInBounds_toArray, List.set_cons_zero, List.set_cons_succ]
  refine take_at (i := 28) (v := .bool false) 119 rfl rfl (by kernel_rfl) (by kernel_rfl) (by kernel_rfl) (fun _ _ _ h => h) (Or.inl ⟨by rfl, fun w _ => by first | (go_simp; done) | (go_simp; with_reducible rfl) | rfl⟩) hHeld ?_
  try simp only [Act.put, List.setIfInBounds_toArray, List.set_cons_zero, List.set_cons_succ]
  refine take_at (i := 29) (v := .pointer (some ⟨wa.heap.size, 0, none⟩)) 120 rfl rfl (by kernel_rfl) (by kernel_rfl) (by kernel_rfl) (fun _ _ _ h => h) (Or.inl ⟨by rfl, fun w _ => by first | (go_simp; done) | (go_simp; with_reducible rfl) | rfl⟩) hHeld ?_
  try simp only [Act.put, List.setIfInBounds_toArray, List.set_cons_zero, List.set_cons_succ]
  refine take_at (i := 30) (v := .pointer (some ⟨wa.heap.size, 0, none⟩)) 121 rfl rfl (by kernel_rfl) (by kernel_rfl) (by kernel_rfl) (fun _ _ _ h => h) (Or.inl ⟨by rfl, fun w _ => by first | (go_simp; done) | (go_simp; with_reducible rfl) | rfl⟩) hHeld ?_
  try simp only [Act.put, List.setIfInBounds_toArray, List.set_cons_zero, List.set_cons_succ]
  refine take_at (i := 31) (v := .pointer (some ⟨wa.heap.size, 31, none⟩)) 122 rfl rfl (by kernel_rfl) (by kernel_rfl) (by kernel_rfl) (fun _ _ _ h => h) (Or.inl ⟨by rfl, fun w _ => by first | (go_simp; done) | (go_simp; with_reducible rfl) | rfl⟩) hHeld ?_
  try simp only [Act.put, List.setIfInBounds_toArray, List.set_cons_zero, List.set_cons_succ]
  refine take_at (i := 32) (v := .agg #[.int .i64 x, .int .i64 y]) 123 rfl rfl (by kernel_rfl) (by kernel_rfl) (by kernel_rfl) (fun _ _ _ h => h) (yieldsIf_load_mid (by rfl) 48 (.tmp 122) rfl wa.heap.size 31 rfl [.int .i64 x, .int .i64 y] _ (fun w' hS => at_range (blk_below hS Q1.out)) Try.underlying48 rfl (by kernel_rfl)) hHeld ?_
  try simp only [Act.put, List.setIfInBounds_toArray, List.set_cons_zero, List.set_cons_succ]
  refine take_at (i := 33) (v := .agg #[.int .i64 x, .int .i64 y]) 124 rfl rfl (by kernel_rfl) (by kernel_rfl) (by kernel_rfl) (fun _ _ _ h => h) (yields_blk (by rfl) 48 (.tmp 5) rfl (w.heap.size + 1 + 1) _ 48 rfl _ (fun w' hS => blk_below hS HQ.out.1.2.2.2.2.2) Try.underlying48 rfl (by kernel_rfl)) hHeld ?_
  try simp only [Act.put, List.setIfInBounds_toArray, List.set_cons_zero, List.set_cons_succ]
  refine take_at (i := 34) (v := .bool true) 125 rfl rfl (by kernel_rfl) (by kernel_rfl) (by kernel_rfl) (fun _ _ _ h => h) (Or.inl ⟨by rfl, fun w _ => by first | (go_simp; done) | (go_simp; rfl)⟩) hHeld ?_
  try simp only [Act.put, List.setIfInBounds_toArray, List.set_cons_zero, List.set_cons_succ]
  refine take_at (i := 35) (v := .bool true) 126 rfl rfl (by kernel_rfl) (by kernel_rfl) (by kernel_rfl) (fun _ _ _ h => h) (Or.inl ⟨by rfl, fun w _ => by first | (go_simp; done) | (go_simp; with_reducible rfl) | rfl⟩) hHeld ?_
  try simp only [Act.put, List.setIfInBounds_toArray, List.set_cons_zero, List.set_cons_succ]
  refine take_at (i := 36) (v := .bool true) 127 rfl rfl (by kernel_rfl) (by kernel_rfl) (by kernel_rfl) (fun _ _ _ h => h) (Or.inl ⟨by rfl, fun w _ => by first | (go_simp; done) | (go_simp; with_reducible rfl) | rfl⟩) hHeld ?_
  try simp only [Act.put, List.setIfInBounds_toArray, List.set_cons_zero, List.set_cons_succ]
  refine take_at (i := 37) (v := .bool true) 128 rfl rfl (by kernel_rfl) (by kernel_rfl) (by kernel_rfl) (fun _ _ _ h => h) (Or.inl ⟨by rfl, fun w _ => by first | (go_simp; done) | (go_simp; with_reducible rfl) | rfl⟩) hHeld ?_
  try simp only [Act.put, List.setIfInBounds_toArray, List.set_cons_zero, List.set_cons_succ]
  refine wpAnyH_ready (rs := [38]) (by kernel_rfl) (by simp) ?_
  refine AllReadyH.cons rfl (fun K hK => ?_) AllReadyH.nil
  go_simp
  go_wp2_with (first | (go_at_call 14; refine (alive_calls _).mono ?_; rintro e10 w10 ⟨rfl, hb10⟩; have HF := Aside0.mk (below_step hHeld hb10); clear hb10))
  clear hHeld
  refine hK.out _ _ (HF.out) (fun hHeld => ?_)
  clear hK K
  try simp only [Act.put, List.setIfInBounds_toArray, List.set_cons_zero, List.set_cons_succ]
  refine take_at (i := 39) (v := .bool true) 130 rfl rfl (by kernel_rfl) (by kernel_rfl) (by kernel_rfl) (fun _ _ _ h => h) (Or.inl ⟨by rfl, fun w _ => by first | (go_simp; done) | (go_simp; with_reducible rfl) | rfl⟩) hHeld ?_
  try simp only [Act.put, List.setIfInBounds_toArray, List.set_cons_zero, List.set_cons_succ]
  refine take_at (i := 40) (v := .bool true) 6 rfl rfl (by kernel_rfl) (by kernel_rfl) (by kernel_rfl) (fun _ _ _ h => h) (Or.inl ⟨by rfl, fun w _ => by first | (go_simp; done) | (go_simp; with_reducible rfl) | rfl⟩) hHeld ?_
  try simp only [Act.put, List.setIfInBounds_toArray, List.set_cons_zero, List.set_cons_succ]
  refine wpAnyH_done (by kernel_rfl) ?_ _
  go_wp2
  go_ret
  exact ⟨rfl, below_step HQ.out.1.out HF.out⟩
attribute [local go_sem high] eqA31 eqA44 eqA48
set_option maxRecDepth 100000 in
set_option maxHeartbeats 4000000 in
theorem StepDoes_o (o : SOp) (t : STold) (x y : Int) (w : World) (O : SOp) (R : SRep) (b : Bool) (e : Int) (hD : doR t o = (O, R, b, e)) (he : e = 0) (hn : ¬ (o.nx = 1 ∨ o.nx = 4)) : Calls Try.prog 4 #[vOp o, vTold t, .agg #[.int .i64 x, .int .i64 y]] w fun e w' => e = .returned (.bool true) ∧ Below w.heap.size w w' := by
  have HD := Aside0.mk hD
  clear hD
  subst he
  have hn1 : (o.nx == 1) = false := beq_false_of_ne (fun h => hn (.inl h))
  have hn4 : (o.nx == 4) = false := beq_false_of_ne (fun h => hn (.inr h))
  have HT := Aside0.mk hn
  clear hn
  go_enter Try.func4, Try.ntmps4
  go_upto_region 1 with fail
  have HX0 : Aside0 (Below w.heap.size w (((w.alloc (.cells (cOp o) 31)).alloc (.cells (cTold t) 46)).alloc (.cells #[.int .i64 x, .int .i64 y] 48)) ∧ w.heap.size + 1 + 1 < (((w.alloc (.cells (cOp o) 31)).alloc (.cells (cTold t) 46)).alloc (.cells #[.int .i64 x, .int .i64 y] 48)).heap.size ∧ LB w.heap.size t o x y (((w.alloc (.cells (cOp o) 31)).alloc (.cells (cTold t) 46)).alloc (.cells #[.int .i64 x, .int .i64 y] 48))) := ⟨below_alloc (below_alloc (below_alloc (Below.refl _ _) _) _) _, by simp only [World.size_alloc]; omega, LB.start w t o x y⟩
  change Code.wp Try.prog _ _ _ (((w.alloc (.cells (cOp o) 31)).alloc (.cells (cTold t) 46)).alloc (.cells #[.int .i64 x, .int .i64 y] 48))
  generalize ((w.alloc (.cells (cOp o) 31)).alloc (.cells (cTold t) 46)).alloc (.cells #[.int .i64 x, .int .i64 y] 48) = wa at HX0 ⊢
  go_upto_region 2 with (first | ((with_reducible refine gate_ (.load 46 (.tmp 4)) rfl ?_); refine load_blk rfl 46 (.tmp 4) rfl (w.heap.size + 1) _ 46 rfl _ HX0.out.2.2.2.1 Try.underlying46 rfl (by kernel_rfl) ?_))
  have HX : Aside0 (LW w wa (wNew t) t o x y (wa.alloc (.cells (wCells t (.slice none 0 0) SOp.zero 0 0 0) 51))) := ⟨HX0.out.1, HX0.out.2.1, WP.new wa t, HX0.out.2.2.below (below_alloc (Below.refl _ _) _)⟩
  change Code.wp Try.prog _ _ _ (wa.alloc (.cells (wCells t (.slice none 0 0) SOp.zero 0 0 0) 51))
  clear HX0
  generalize wa.alloc (.cells (wCells t (.slice none 0 0) SOp.zero 0 0 0) 51) = wb at HX ⊢
  refine wp_region_held_drew (S := LB w.heap.size t o x y) (by kernel_rfl) HX.out.2.2.2 (fun hHeld => ?_)
  have HX1 : Aside0 (LW w wa (wNew t) t o x y wb.drew) := ⟨HX.out.below (pw_below_drewN (Below.refl _ _) 1)⟩
  generalize wb.drew = wc at HX1 hHeld ⊢
  refine take_at (i := 0) (v := .pointer (some ⟨wa.heap.size, 0, none⟩)) 20 rfl rfl (by kernel_rfl) (by kernel_rfl) (by kernel_rfl) (fun _ _ _ h => h) (Or.inl ⟨by rfl, fun w _ => by first | (go_simp; done) | (go_simp; with_reducible rfl) | rfl⟩) hHeld ?_
  try simp only [Act.put, List.setIfInBounds_toArray, List.set_cons_zero, List.set_cons_succ]
  refine take_at (i := 1) (v := vW wa.heap.size) 21 rfl rfl (by kernel_rfl) (by kernel_rfl) (by kernel_rfl) (fun _ _ _ h => h) (Or.inl ⟨by rfl, fun w _ => by first | (go_simp; done) | (go_simp; with_reducible rfl) | rfl⟩) hHeld ?_
  try simp only [Act.put, List.setIfInBounds_toArray, List.set_cons_zero, List.set_cons_succ]
  refine take_at (i := 2) (v := vOp o) 22 rfl rfl (by kernel_rfl) (by kernel_rfl) (by kernel_rfl) (fun _ _ _ h => h) (yields_blk (by rfl) 31 (.tmp 3) rfl w.heap.size _ 31 rfl _ (fun w h => h.1) Try.underlying31 rfl (by kernel_rfl)) hHeld ?_
  try simp only [Act.put, List.setIfInBounds_toArray, List.set_cons_zero, List.set_cons_succ]
  refine take_at (i := 4) (v := vTold t) 24 rfl rfl (by kernel_rfl) (by kernel_rfl) (by kernel_rfl) (fun _ _ _ h => h) (yields_blk (by rfl) 46 (.tmp 4) rfl (w.heap.size + 1) _ 46 rfl _ (fun w h => h.2.1) Try.underlying46 rfl (by kernel_rfl)) hHeld ?_
  try simp only [Act.put, List.setIfInBounds_toArray, List.set_cons_zero, List.set_cons_succ]
  refine take_at (i := 5) (v := vOp o) 25 rfl rfl (by kernel_rfl) (by kernel_rfl) (by kernel_rfl) (fun _ _ _ h => h) (yields_blk (by rfl) 31 (.tmp 3) rfl w.heap.size _ 31 rfl _ (fun w h => h.1) Try.underlying31 rfl (by kernel_rfl)) hHeld ?_
  try simp only [Act.put, List.setIfInBounds_toArray, List.set_cons_zero, List.set_cons_succ]
  refine wpAnyH_ready (rs := [3]) (by kernel_rfl) (by simp) ?_
  refine AllReadyH.cons rfl (fun K hK => ?_) AllReadyH.nil
  go_simp
  go_wp2_with (first | (go_at_call 15; refine (Enabled_new wa.heap.size t o wa _ HX1.out.2.2.1).mono ?_; rintro e3 w3 ⟨rfl, ⟨r3, hw3⟩, hk3⟩; have HY := Aside0.mk (HX1.out.kb hw3 hk3); clear hw3 hk3))
  clear hHeld
  refine hK.out _ _ (HY.out.2.2.2) (fun hHeld => ?_)
  clear hK K
  try simp only [Act.put, List.setIfInBounds_toArray, List.set_cons_zero, List.set_cons_succ]
  refine wpAnyH_ready (rs := [6]) (by kernel_rfl) (by simp) ?_
  refine AllReadyH.cons rfl (fun K hK => ?_) AllReadyH.nil
  go_simp
  go_wp2_with (first | (go_at_call 16; refine (rampartref17_Enabled.calls 10 t.rep.c t.rep.a t.rep.h t.rep.p t.op.n t.op.k t.op.a t.op.r t.op.h t.op.p t.op.nx t.op.ch t.op.ln t.op.sq t.op.ep t.op.pl t.code t.ready o.n o.k o.a o.r o.h o.p o.nx o.ch o.ln o.sq o.ep o.pl (enb t.ready o) _ (renb_ok t o)).mono ?_; rintro e4 w4 ⟨rfl, hb4⟩; have HZ := Aside0.mk (HY.out.below hb4); clear hb4))
  clear hHeld
  refine hK.out _ _ (HZ.out.2.2.2) (fun hHeld => ?_)
  clear hK K
  try simp only [Act.put, List.setIfInBounds_toArray, List.set_cons_zero, List.set_cons_succ]
  refine take_at (i := 7) (v := .bool false) 27 rfl rfl (by kernel_rfl) (by kernel_rfl) (by kernel_rfl) (fun _ _ _ h => h) (Or.inl ⟨by rfl, fun w _ => by cases enb t.ready o <;> (first | (go_simp; done) | (go_simp; with_reducible rfl) | rfl)⟩) hHeld ?_
  try simp only [Act.put, List.setIfInBounds_toArray, List.set_cons_zero, List.set_cons_succ]
  refine take_at (i := 8) (v := .bool false) 28 rfl rfl (by kernel_rfl) (by kernel_rfl) (by kernel_rfl) (fun _ _ _ h => h) (Or.inl ⟨by rfl, fun w _ => by first | (go_simp; done) | (go_simp; with_reducible rfl) | rfl⟩) hHeld ?_
  try simp only [Act.put, List.setIfInBounds_toArray, List.set_cons_zero, List.set_cons_succ]
  refine take_at (i := 9) (v := .pointer (some ⟨wa.heap.size, 0, none⟩)) 29 rfl rfl (by kernel_rfl) (by kernel_rfl) (by kernel_rfl) (fun _ _ _ h => h) (Or.inl ⟨by rfl, fun w _ => by first | (go_simp; done) | (go_simp; with_reducible rfl) | rfl⟩) hHeld ?_
  try simp only [Act.put, List.setIfInBounds_toArray, List.set_cons_zero, List.set_cons_succ]
  refine take_at (i := 10) (v := .pointer (some ⟨wa.heap.size, 0, none⟩)) 30 rfl rfl (by kernel_rfl) (by kernel_rfl) (by kernel_rfl) (fun _ _ _ h => h) (Or.inl ⟨by rfl, fun w _ => by first | (go_simp; done) | (go_simp; with_reducible rfl) | rfl⟩) hHeld ?_
  try simp only [Act.put, List.setIfInBounds_toArray, List.set_cons_zero, List.set_cons_succ]
  refine take_at (i := 11) (v := .pointer (some ⟨wa.heap.size, 18, none⟩)) 31 rfl rfl (by kernel_rfl) (by kernel_rfl) (by kernel_rfl) (fun _ _ _ h => h) (Or.inl ⟨by rfl, fun w _ => by first | (go_simp; done) | (go_simp; with_reducible rfl) | rfl⟩) hHeld ?_
  try simp only [Act.put, List.setIfInBounds_toArray, List.set_cons_zero, List.set_cons_succ]
  obtain ⟨A0, cap0, q0⟩ := HZ.out.2.2.1.asked0 rfl
  refine wpAnyH_ready (rs := [12]) (by kernel_rfl) (by simp) ?_
  refine AllReadyH.cons rfl (fun K hK => ?_) AllReadyH.nil
  go_simp
  clear hHeld
  refine hK.out _ _ (HZ.out.2.2.2) (fun hHeld => ?_)
  clear hK K
  try simp only [Act.put, List.setIfInBounds_toArray, List.set_cons_zero, List.set_cons_succ]
  refine take_at (i := 13) (v := .int .i64 0) 33 rfl rfl (by kernel_rfl) (by kernel_rfl) (by kernel_rfl) (fun _ _ _ h => h) (Or.inl ⟨by rfl, fun w _ => by first | (go_simp; done) | (go_simp; with_reducible rfl) | rfl⟩) hHeld ?_
  try simp only [Act.put, List.setIfInBounds_toArray, List.set_cons_zero, List.set_cons_succ]
  refine take_at (i := 14) (v := .bool false) 34 rfl rfl (by kernel_rfl) (by kernel_rfl) (by kernel_rfl) (fun _ _ _ h => h) (Or.inl ⟨by rfl, fun w _ => by first | (go_simp; done) | (go_simp; with_reducible rfl) | rfl⟩) hHeld ?_
  try simp only [Act.put, List.setIfInBounds_toArray, List.set_cons_zero, List.set_cons_succ]
  refine take_at (i := 15) (v := .bool false) 35 rfl rfl (by kernel_rfl) (by kernel_rfl) (by kernel_rfl) (fun _ _ _ h => h) (Or.inl ⟨by rfl, fun w _ => by first | (go_simp; done) | (go_simp; with_reducible rfl) | rfl⟩) hHeld ?_
  try simp only [Act.put, List.setIfInBounds_toArray, List.set_cons_zero, List.set_cons_succ]
  refine wpAnyH_done (by kernel_rfl) ?_ _
  clear hHeld q0
  go_upto_region 5 with (first | ((with_reducible refine gate_ (.load 31 (.tmp 3)) rfl ?_); refine load_blk rfl 31 (.tmp 3) rfl w.heap.size _ 31 rfl _ HZ.out.2.2.2.1 Try.underlying31 rfl (by kernel_rfl) ?_) | ((with_reducible refine gate_ (.load 48 (.tmp 5)) rfl ?_); refine load_blk rfl 48 (.tmp 5) rfl (w.heap.size + 1 + 1) _ 48 rfl _ HZ.out.2.2.2.2.2 Try.underlying48 rfl (by kernel_rfl) ?_) | (go_at_call 17; refine (Do_calls' wa.heap.size { wNew t with rd := r3 } o x y O R b _ HD.out wa _ HZ.out.2.2.1 (by show 0 < 1000; omega)).mono ?_; rintro e5 w5 ⟨rfl, ⟨r5, hw5⟩, hk5⟩; have HU := Aside0.mk (HZ.out.kb hw5 hk5); clear hw5 hk5))
  change Code.wp Try.prog _ _ _ ((w5.alloc (.cells (cOp O) 31)).alloc (.cells (cRep R) 44))
  have HV := Aside0.mk (And.intro (HU.out.below (below2 w5 (.cells (cOp O) 31) (.cells (cRep R) 44))) (S2.new w5 O R))
  clear HX HX1 HY HZ HU
  generalize ((w5.alloc (.cells (cOp O) 31)).alloc (.cells (cRep R) 44)) = w6 at HV ⊢
  generalize w5.heap.size = g5 at HV ⊢
  go_upto_region 6 with (first | ((with_reducible refine gate_ (.load 31 (.tmp 3)) rfl ?_); refine load_blk rfl 31 (.tmp 3) rfl w.heap.size _ 31 rfl _ HV.out.1.2.2.2.1 Try.underlying31 rfl (by kernel_rfl) ?_) | ((with_reducible refine gate_ (.load 46 (.tmp 4)) rfl ?_); refine load_blk rfl 46 (.tmp 4) rfl (w.heap.size + 1) _ 46 rfl _ HV.out.1.2.2.2.2.1 Try.underlying46 rfl (by kernel_rfl) ?_) | (go_at_call 18; refine (RDo_calls' t o O R b _ HD.out _).mono ?_; rintro e7 w7 ⟨rfl, hb7⟩; have HW := Aside0.mk (And.intro (HV.out.1.below hb7) (HV.out.2.below hb7)); clear hb7))
  change Code.wp Try.prog _ _ _ ((w7.alloc (.cells (cOp O) 31)).alloc (.cells (cRep R) 44))
  have HQ := Aside0.mk (And.intro (HW.out.1.below (below2 w7 (.cells (cOp O) 31) (.cells (cRep R) 44))) (And.intro (HW.out.2.below (below2 w7 (.cells (cOp O) 31) (.cells (cRep R) 44))) (S2.new w7 O R)))
  clear HV HW
  generalize ((w7.alloc (.cells (cOp O) 31)).alloc (.cells (cRep R) 44)) = w8 at HQ ⊢
  generalize w7.heap.size = g7 at HQ ⊢
  obtain ⟨z0, z1, z2, z3, z4, z5, z6, z7, z8, z9, z10, z11⟩ := op_cells HQ.out.2.1.1
  obtain ⟨y0, y1, y2, y3⟩ := rep_cells HQ.out.2.1.2
  obtain ⟨u0, u1, u2, u3, u4, u5, u6, u7, u8, u9, u10, u11⟩ := op_cells HQ.out.2.2.1
  obtain ⟨v0, v1, v2, v3⟩ := rep_cells HQ.out.2.2.2
  go_upto_region 8 with fail
  clear z0 z1 z2 z3 z4 z5 z6 z7 z8 z9 z10 z11 y0 y1 y2 y3 u0 u1 u2 u3 u4 u5 u6 u7 u8 u9 u10 u11 v0 v1 v2 v3
  have hW : WP wa.heap.size wa { asked (wNew t) o x y with rd := r5 } w8 := by
    have := HQ.out.1.2.2.1
    rw [asked_rd] at this
    exact this
  have ha : asked (wNew t) o x y = { wNew t with qs := [o.nx], l := o } := by unfold asked; rw [if_neg HT.out]; rfl
  rw [ha] at hW
  obtain ⟨gq, cap1, q1, q2⟩ := hW.asked1 rfl
  have q3 : w8.cell? ⟨w.heap.size, 6, none⟩ = some (.int .i64 o.nx) := by
    obtain ⟨_, _, _, _, _, _, h6, _⟩ := op_cells HQ.out.1.2.2.2.1
    exact h6
  dsimp only at q1
  have Q1 := Aside0.mk q1
  have Q2 := Aside0.mk q2
  have Q3 := Aside0.mk q3
  clear hW ha q1 q2
  go_upto_region 11 with fail
  clear q3
  refine wp_region_held_drew (S := fun w' => Below w8.heap.size w8 w') (by kernel_rfl) (pw_below_drewN (Below.refl _ _) 1) (fun hHeld => ?_)
  generalize w8.drew = w9 at hHeld ⊢
  refine take_at (i := 0) (v := .pointer (some ⟨wa.heap.size, 0, none⟩)) 91 rfl rfl (by kernel_rfl) (by kernel_rfl) (by kernel_rfl) (fun _ _ _ h => h) (Or.inl ⟨by rfl, fun w _ => by first | (go_simp; done) | (go_simp; with_reducible rfl) | rfl⟩) hHeld ?_
  try simp only [Act.put, List.setIfInBounds_toArray, List.set_cons_zero, List.set_cons_succ]
  refine take_at (i := 1) (v := .pointer (some ⟨wa.heap.size, 0, none⟩)) 92 rfl rfl (by kernel_rfl) (by kernel_rfl) (by kernel_rfl) (fun _ _ _ h => h) (Or.inl ⟨by rfl, fun w _ => by first | (go_simp; done) | (go_simp; with_reducible rfl) | rfl⟩) hHeld ?_
  try simp only [Act.put, List.setIfInBounds_toArray, List.set_cons_zero, List.set_cons_succ]
  refine take_at (i := 2) (v := .pointer (some ⟨wa.heap.size, 18, none⟩)) 93 rfl rfl (by kernel_rfl) (by kernel_rfl) (by kernel_rfl) (fun _ _ _ h => h) (Or.inl ⟨by rfl, fun w _ => by first | (go_simp; done) | (go_simp; with_reducible rfl) | rfl⟩) hHeld ?_
  try simp only [Act.put, List.setIfInBounds_toArray, List.set_cons_zero, List.set_cons_succ]
  refine take_at (i := 3) (v := .slice (some ⟨gq, 0, none⟩) 1 cap1) 94 rfl rfl (by kernel_rfl) (by kernel_rfl) (by kernel_rfl) (fun _ _ _ h => h) (Or.inl ⟨by rfl, fun w' hS => by have hq := pw_cell_below hS (ask_cell Q1.out); go_simp⟩) hHeld ?_
  try simp only [Act.put, List.setIfInBounds_toArray, List.set_cons_zero, List.set_cons_succ]
  refine take_at (i := 4) (v := .int .i64 1) 95 rfl rfl (by kernel_rfl) (by kernel_rfl) (by kernel_rfl) (fun _ _ _ h => h) (Or.inl ⟨by rfl, fun w _ => by first | (go_simp; done) | (go_simp; with_reducible rfl) | rfl⟩) hHeld ?_
  try simp only [Act.put, List.setIfInBounds_toArray, List.set_cons_zero, List.set_cons_succ]
  refine take_at (i := 5) (v := .bool true) 96 rfl rfl (by kernel_rfl) (by kernel_rfl) (by kernel_rfl) (fun _ _ _ h => h) (Or.inl ⟨by rfl, fun w _ => by first | (go_simp; done) | (go_simp; with_reducible rfl) | rfl⟩) hHeld ?_
  try simp only [Act.put, List.setIfInBounds_toArray, List.set_cons_zero, List.set_cons_succ]
  refine take_at (i := 6) (v := .bool true) 97 rfl rfl (by kernel_rfl) (by kernel_rfl) (by kernel_rfl) (fun _ _ _ h => h) (Or.inl ⟨by rfl, fun w _ => by first | (go_simp; done) | (go_simp; with_reducible rfl) | rfl⟩) hHeld ?_
  try simp only [Act.put, List.setIfInBounds_toArray, List.set_cons_zero, List.set_cons_succ]
  refine take_at (i := 7) (v := .pointer (some ⟨wa.heap.size, 0, none⟩)) 98 rfl rfl (by kernel_rfl) (by kernel_rfl) (by kernel_rfl) (fun _ _ _ h => h) (Or.inl ⟨by rfl, fun w _ => by first | (go_simp; done) | (go_simp; with_reducible rfl) | rfl⟩) hHeld ?_
  try simp only [Act.put, List.setIfInBounds_toArray, List.set_cons_zero, List.set_cons_succ]
  refine take_at (i := 8) (v := .pointer (some ⟨wa.heap.size, 0, none⟩)) 99 rfl rfl (by kernel_rfl) (by kernel_rfl) (by kernel_rfl) (fun _ _ _ h => h) (Or.inl ⟨by rfl, fun w _ => by first | (go_simp; done) | (go_simp; with_reducible rfl) | rfl⟩) hHeld ?_
  try simp only [Act.put, List.setIfInBounds_toArray, List.set_cons_zero, List.set_cons_succ]
  refine take_at (i := 9) (v := .pointer (some ⟨wa.heap.size, 18, none⟩)) 100 rfl rfl (by kernel_rfl) (by kernel_rfl) (by kernel_rfl) (fun _ _ _ h => h) (Or.inl ⟨by rfl, fun w _ => by first | (go_simp; done) | (go_simp; with_reducible rfl) | rfl⟩) hHeld ?_
  try simp only [Act.put, List.setIfInBounds_toArray, List.set_cons_zero, List.set_cons_succ]
  refine take_at (i := 10) (v := .slice (some ⟨gq, 0, none⟩) 1 cap1) 101 rfl rfl (by kernel_rfl) (by kernel_rfl) (by kernel_rfl) (fun _ _ _ h => h) (Or.inl ⟨by rfl, fun w' hS => by have hq := pw_cell_below hS (ask_cell Q1.out); go_simp⟩) hHeld ?_
  try simp only [Act.put, List.setIfInBounds_toArray, List.set_cons_zero, List.set_cons_succ]
  refine take_at (i := 11) (v := .pointer (some ⟨gq, 0, none⟩)) 102 rfl rfl (by kernel_rfl) (by kernel_rfl) (by kernel_rfl) (fun _ _ _ h => h) (Or.inl ⟨by rfl, fun w _ => by first | (go_simp; done) | (go_simp; with_reducible rfl) | rfl⟩) hHeld ?_
  try simp only [Act.put, List.setIfInBounds_toArray, List.set_cons_zero, List.set_cons_succ]
  refine take_at (i := 12) (v := .int .i64 o.nx) 103 rfl rfl (by kernel_rfl) (by kernel_rfl) (by kernel_rfl) (fun _ _ _ h => h) (Or.inl ⟨by rfl, fun w' hS => by have hq := pw_cell_below hS Q2.out; go_simp⟩) hHeld ?_
  try simp only [Act.put, List.setIfInBounds_toArray, List.set_cons_zero, List.set_cons_succ]
  refine take_at (i := 13) (v := .pointer (some ⟨w.heap.size, 6, none⟩)) 104 rfl rfl (by kernel_rfl) (by kernel_rfl) (by kernel_rfl) (fun _ _ _ h => h) (Or.inl ⟨by rfl, fun w _ => by first | (go_simp; done) | (go_simp; with_reducible rfl) | rfl⟩) hHeld ?_
  try simp only [Act.put, List.setIfInBounds_toArray, List.set_cons_zero, List.set_cons_succ]
  refine take_at (i := 14) (v := .int .i64 o.nx) 105 rfl rfl (by kernel_rfl) (by kernel_rfl) (by kernel_rfl) (fun _ _ _ h => h) (Or.inl ⟨by rfl, fun w' hS => by have hq := pw_cell_below hS Q3.out; go_simp⟩) hHeld ?_
  try simp only [Act.put, List.setIfInBounds_toArray, List.set_cons_zero, List.set_cons_succ]
  refine take_at (i := 15) (v := .bool true) 106 rfl rfl (by kernel_rfl) (by kernel_rfl) (by kernel_rfl) (fun _ _ _ h => h) (Or.inl ⟨by rfl, fun w _ => by first | (go_simp; done) | (go_simp; with_reducible rfl) | rfl⟩) hHeld ?_
  try simp only [Act.put, List.setIfInBounds_toArray, List.set_cons_zero, List.set_cons_succ]
  refine take_at (i := 16) (v := .bool true) 107 rfl rfl (by kernel_rfl) (by kernel_rfl) (by kernel_rfl) (fun _ _ _ h => h) (Or.inl ⟨by rfl, fun w _ => by first | (go_simp; done) | (go_simp; with_reducible rfl) | rfl⟩) hHeld ?_
  try simp only [Act.put, List.setIfInBounds_toArray, List.set_cons_zero, List.set_cons_succ]
  refine take_at (i := 17) (v := .bool true) 108 rfl rfl (by kernel_rfl) (by kernel_rfl) (by kernel_rfl) (fun _ _ _ h => h) (Or.inl ⟨by rfl, fun w _ => by first | (go_simp; done) | (go_simp; with_reducible rfl) | rfl⟩) hHeld ?_
  try simp only [Act.put, List.setIfInBounds_toArray, List.set_cons_zero, List.set_cons_succ]
  refine take_at (i := 18) (v := .pointer (some ⟨wa.heap.size, 0, none⟩)) 109 rfl rfl (by kernel_rfl) (by kernel_rfl) (by kernel_rfl) (fun _ _ _ h => h) (Or.inl ⟨by rfl, fun w _ => by first | (go_simp; done) | (go_simp; with_reducible rfl) | rfl⟩) hHeld ?_
  try simp only [Act.put, List.setIfInBounds_toArray, List.set_cons_zero, List.set_cons_succ]
  refine take_at (i := 19) (v := .pointer (some ⟨wa.heap.size, 0, none⟩)) 110 rfl rfl (by kernel_rfl) (by kernel_rfl) (by kernel_rfl) (fun _ _ _ h => h) (Or.inl ⟨by rfl, fun w _ => by first | (go_simp; done) | (go_simp; with_reducible rfl) | rfl⟩) hHeld ?_
  try simp only [Act.put, List.setIfInBounds_toArray, List.set_cons_zero, List.set_cons_succ]
  refine take_at (i := 20) (v := .pointer (some ⟨wa.heap.size, 19, none⟩)) 111 rfl rfl (by kernel_rfl) (by kernel_rfl) (by kernel_rfl) (fun _ _ _ h => h) (Or.inl ⟨by rfl, fun w _ => by first | (go_simp; done) | (go_simp; with_reducible rfl) | rfl⟩) hHeld ?_
  try simp only [Act.put, List.setIfInBounds_toArray, List.set_cons_zero, List.set_cons_succ]
  refine take_at (i := 21) (v := vOp o) 112 rfl rfl (by kernel_rfl) (by kernel_rfl) (by kernel_rfl) (fun _ _ _ h => h) (yieldsIf_load_mid (by rfl) 31 (.tmp 111) rfl wa.heap.size 19 rfl (cOp o).toList _ (fun w' hS => last_range (blk_below hS Q1.out)) Try.underlying31 rfl (by kernel_rfl)) hHeld ?_
  try simp only [Act.put, List.setIfInBounds_toArray, List.set_cons_zero, List.set_cons_succ]
  refine take_at (i := 22) (v := vOp o) 113 rfl rfl (by kernel_rfl) (by kernel_rfl) (by kernel_rfl) (fun _ _ _ h => h) (yields_blk (by rfl) 31 (.tmp 3) rfl w.heap.size _ 31 rfl _ (fun w' hS => blk_below hS HQ.out.1.2.2.2.1) Try.underlying31 rfl (by kernel_rfl)) hHeld ?_
  try simp only [Act.put, List.setIfInBounds_toArray, List.set_cons_zero, List.set_cons_succ]
  refine take_at (i := 23) (v := .bool true) 114 rfl rfl (by kernel_rfl) (by kernel_rfl) (by kernel_rfl) (fun _ _ _ h => h) (Or.inl ⟨by rfl, fun w _ => by first | (go_simp; done) | (go_simp; rfl)⟩) hHeld ?_
  try simp only [Act.put, List.setIfInBounds_toArray, List.set_cons_zero, List.set_cons_succ]
  refine take_at (i := 24) (v := .bool true) 115 rfl rfl (by kernel_rfl) (by kernel_rfl) (by kernel_rfl) (fun _ _ _ h => h) (Or.inl ⟨by rfl, fun w _ => by first | (go_simp; done) | (go_simp; with_reducible rfl) | rfl⟩) hHeld ?_
  try simp only [Act.put, List.setIfInBounds_toArray, List.set_cons_zero, List.set_cons_succ]
  refine take_at (i := 25) (v := .bool true) 116 rfl rfl (by kernel_rfl) (by kernel_rfl) (by kernel_rfl) (fun _ _ _ h => h) (Or.inl ⟨by rfl, fun w _ => by first | (go_simp; done) | (go_simp; with_reducible rfl) | rfl⟩) hHeld ?_
  try simp only [Act.put, List.setIfInBounds_toArray, List.set_cons_zero, List.set_cons_succ]
  refine take_at (i := 26) (v := .bool false) 117 rfl rfl (by kernel_rfl) (by kernel_rfl) (by kernel_rfl) (fun _ _ _ h => h) (Or.inl ⟨by rfl, fun w _ => by first | (go_simp; done) | (go_simp; with_reducible rfl) | rfl⟩) hHeld ?_
  try simp only [Act.put, List.setIfInBounds_toArray, List.set_cons_zero, List.set_cons_succ]
  refine take_at (i := 27) (v := .bool true) 118 rfl rfl (by kernel_rfl) (by kernel_rfl) (by kernel_rfl) (fun _ _ _ h => h) (Or.inl ⟨by rfl, fun w _ => by first | (go_simp; done) | (go_simp; with_reducible rfl) | rfl⟩) hHeld ?_
  try simp only [Act.put, List.setIfInBounds_toArray, List.set_cons_zero, List.set_cons_succ]
  refine take_at (i := 28) (v := .bool true) 119 rfl rfl (by kernel_rfl) (by kernel_rfl) (by kernel_rfl) (fun _ _ _ h => h) (Or.inl ⟨by rfl, fun w _ => by first | (go_simp; done) | (go_simp; with_reducible rfl) | rfl⟩) hHeld ?_
  try simp only [Act.put, List.setIfInBounds_toArray, List.set_cons_zero, List.set_cons_succ]
  refine take_at (i := 29) (v := undef) 120 rfl rfl (by kernel_rfl) (by kernel_rfl) (by kernel_rfl) (fun _ _ _ h => h) (Or.inr ⟨by rfl, rfl⟩) hHeld ?_
  try simp only [Act.put, List.setIfInBounds_toArray, List.set_cons_zero, List.set_cons_succ]
  refine take_at (i := 30) (v := undef) 121 rfl rfl (by kernel_rfl) (by kernel_rfl) (by kernel_rfl) (fun _ _ _ h => h) (Or.inr ⟨by rfl, rfl⟩) hHeld ?_
  try simp only [Act.put, List.setIfInBounds_toArray, List.set_cons_zero, List.set_cons_succ]
  refine take_at (i := 31) (v := undef) 122 rfl rfl (by kernel_rfl) (by kernel_rfl) (by kernel_rfl) (fun _ _ _ h => h) (Or.inr ⟨by rfl, rfl⟩) hHeld ?_
  try simp only [Act.put, List.setIfInBounds_toArray, List.set_cons_zero, List.set_cons_succ]
  refine take_at (i := 32) (v := undef) 123 rfl rfl (by kernel_rfl) (by kernel_rfl) (by kernel_rfl) (fun _ _ _ h => h) (Or.inr ⟨by rfl, rfl⟩) hHeld ?_
  try simp only [Act.put, List.setIfInBounds_toArray, List.set_cons_zero, List.set_cons_succ]
  refine take_at (i := 33) (v := undef) 124 rfl rfl (by kernel_rfl) (by kernel_rfl) (by kernel_rfl) (fun _ _ _ h => h) (Or.inr ⟨by rfl, rfl⟩) hHeld ?_
  try simp only [Act.put, List.setIfInBounds_toArray, List.set_cons_zero, List.set_cons_succ]
  refine take_at (i := 34) (v := undef) 125 rfl rfl (by kernel_rfl) (by kernel_rfl) (by kernel_rfl) (fun _ _ _ h => h) (Or.inr ⟨by rfl, rfl⟩) hHeld ?_
  try simp only [Act.put, List.setIfInBounds_toArray, List.set_cons_zero, List.set_cons_succ]
  refine take_at (i := 35) (v := .bool true) 126 rfl rfl (by kernel_rfl) (by kernel_rfl) (by kernel_rfl) (fun _ _ _ h => h) (Or.inl ⟨by rfl, fun w _ => by first | (go_simp; done) | (go_simp; with_reducible rfl) | rfl⟩) hHeld ?_
  try simp only [Act.put, List.setIfInBounds_toArray, List.set_cons_zero, List.set_cons_succ]
  refine take_at (i := 36) (v := .bool true) 127 rfl rfl (by kernel_rfl) (by kernel_rfl) (by kernel_rfl) (fun _ _ _ h => h) (Or.inl ⟨by rfl, fun w _ => by first | (go_simp; done) | (go_simp; with_reducible rfl) | rfl⟩) hHeld ?_
  try simp only [Act.put, List.setIfInBounds_toArray, List.set_cons_zero, List.set_cons_succ]
  refine take_at (i := 37) (v := .bool true) 128 rfl rfl (by kernel_rfl) (by kernel_rfl) (by kernel_rfl) (fun _ _ _ h => h) (Or.inl ⟨by rfl, fun w _ => by first | (go_simp; done) | (go_simp; with_reducible rfl) | rfl⟩) hHeld ?_
  try simp only [Act.put, List.setIfInBounds_toArray, List.set_cons_zero, List.set_cons_succ]
  refine wpAnyH_ready (rs := [38]) (by kernel_rfl) (by simp) ?_
  refine AllReadyH.cons rfl (fun K hK => ?_) AllReadyH.nil
  go_simp
  go_wp2_with (first | (go_at_call 14; refine (alive_calls _).mono ?_; rintro e10 w10 ⟨rfl, hb10⟩; have HF := Aside0.mk (below_step hHeld hb10); clear hb10))
  clear hHeld
  refine hK.out _ _ (HF.out) (fun hHeld => ?_)
  clear hK K
  try simp only [Act.put, List.setIfInBounds_toArray, List.set_cons_zero, List.set_cons_succ]
  refine take_at (i := 39) (v := .bool true) 130 rfl rfl (by kernel_rfl) (by kernel_rfl) (by kernel_rfl) (fun _ _ _ h => h) (Or.inl ⟨by rfl, fun w _ => by first | (go_simp; done) | (go_simp; with_reducible rfl) | rfl⟩) hHeld ?_
  try simp only [Act.put, List.setIfInBounds_toArray, List.set_cons_zero, List.set_cons_succ]
  refine take_at (i := 40) (v := .bool true) 6 rfl rfl (by kernel_rfl) (by kernel_rfl) (by kernel_rfl) (fun _ _ _ h => h) (Or.inl ⟨by rfl, fun w _ => by first | (go_simp; done) | (go_simp; with_reducible rfl) | rfl⟩) hHeld ?_
  try simp only [Act.put, List.setIfInBounds_toArray, List.set_cons_zero, List.set_cons_succ]
  refine wpAnyH_done (by kernel_rfl) ?_ _
  go_wp2
  go_ret
  exact ⟨rfl, below_step HQ.out.1.out HF.out⟩
theorem StepDoes_core (o : SOp) (t : STold) (x y : Int) (w : World) : Calls Try.prog 4 #[vOp o, vTold t, .agg #[.int .i64 x, .int .i64 y]] w fun e w' => e = .returned (.bool true) ∧ Below w.heap.size w w' := by
  by_cases he : (doR t o).2.2.2 = 0
  · by_cases h1 : o.nx = 1
    · exact StepDoes_1 o t x y w _ _ _ _ rfl he h1
    · by_cases h4 : o.nx = 4
      · exact StepDoes_4 o t x y w _ _ _ _ rfl he h4
      · exact StepDoes_o o t x y w _ _ _ _ rfl he (fun h => h.elim h1 h4)
  · exact StepDoes_not o t x y w _ _ _ _ rfl he
theorem StepDoes_walk (a0 a1 a2 a3 a4 a5 a6 a7 a8 a9 a10 a11 b0 b1 b2 b3 b4 b5 b6 b7 b8 b9 b10 b11 b12 b13 b14 b15 b16 : Int) (b17 : Bool) (x y : Int) (w : World) {P0 P1 P2 : Prop} (_h0 : P0) (_h1 : P1) (_h2 : P2) :
    Calls Try.prog 4 #[.agg #[.int .i64 a0, .int .u8 a1, .int .u8 a2, .int .u8 a3, .int .u32 a4, .int .u64 a5, .int .i64 a6, .int .i64 a7, .int .i64 a8, .int .u64 a9, .int .u64 a10, .int .u64 a11], .agg #[.int .u8 b0, .int .u8 b1, .int .u32 b2, .int .u64 b3, .int .i64 b4, .int .u8 b5, .int .u8 b6, .int .u8 b7, .int .u32 b8, .int .u64 b9, .int .i64 b10, .int .i64 b11, .int .i64 b12, .int .u64 b13, .int .u64 b14, .int .u64 b15, .int .u8 b16, .bool b17], .agg #[.int .i64 x, .int .i64 y]] w fun e w' => e = .returned (.bool true) ∧ Below w.heap.size w w' :=
  StepDoes_core ⟨a0, a1, a2, a3, a4, a5, a6, a7, a8, a9, a10, a11⟩ ⟨⟨b0, b1, b2, b3⟩, ⟨b4, b5, b6, b7, b8, b9, b10, b11, b12, b13, b14, b15⟩, b16, b17⟩ x y w
end Go.Proofs.Ytooddkaepkjidaa.QSt
