/- Step: Finish, walked by hand. Written by a program of this repo (tools/gen_fin.py). -/
import Derived.Test.YtooddkaepkjidaaKSt
namespace Go.Proofs.Ytooddkaepkjidaa.QSt
open Go.RowKit Go.Proofs.YtooddkaepkjidaaW.PrintWords Go.Proofs.YtooddkaepkjidaaW.PrintLast Go.Proofs.YtooddkaepkjidaaW.PrintMore
set_option linter.unusedVariables false
set_option linter.unusedSimpArgs false
attribute [local go_sem] cs_off

def rank (nx : Int) : Nat := if nx = 2 then 3 else if nx = 3 ∨ nx = 5 then 2 else 1
theorem rank_pos (nx : Int) : 1 ≤ rank nx := by
  unfold rank
  split
  · omega
  · split <;> omega
theorem rank_le (nx : Int) : rank nx ≤ 3 := by
  unfold rank
  split
  · omega
  · split <;> omega
theorem rank_do (t : STold) (o : SOp) (hb : (doOp t o).2.2 = false) : rank (doOp t o).1.nx < rank o.nx := by
  unfold doOp at hb ⊢
  by_cases h1 : o.nx = 1
  · simp [h1] at hb
  by_cases h2 : o.nx = 2
  · simp only [h2] at hb ⊢
    simp at hb
    simp [foundOp, hb, rank]
  by_cases h5 : o.nx = 5
  · simp only [h5] at hb ⊢
    simp at hb
    simp [foundOp, hb, rank]
  by_cases h3 : o.nx = 3
  · simp [h3, rank]
  by_cases h4 : o.nx = 4
  · simp [h4] at hb
  · simp [h1, h2, h3, h4, h5] at hb
/-- What Finish answers, and the world behind it. -/
def finR (x y : Int) : Nat → WS → SOp → (SOp × SRep × Bool × Int) × WS
  | 0, s, o => ((o, SRep.zero, false, 0), s)
  | n + 1, s, o => if placeOf o < 0 then ((o, SRep.zero, false, 170), s) else if enb s.t.ready o = false then ((o, SRep.zero, false, 0), s) else
    if (doOp s.t o).2.2 = true then (((doOp s.t o).1, (doOp s.t o).2.1, true, 0), asked s o x y) else finR x y n (asked s o x y) (doOp s.t o).1
theorem asked_len (s : WS) (o : SOp) (x y : Int) : (asked s o x y).qs.length = s.qs.length + 1 := by unfold asked; split <;> simp
theorem asked_t (s : WS) (o : SOp) (x y : Int) : (asked s o x y).t = s.t := by unfold asked; split <;> rfl
def nxAt (b : Nat) (w : World) : Nat := match w.cell? ⟨b, 6, none⟩ with | some (.int _ n) => rank n | _ => 0
theorem nxAt_of {b : Nat} {w : World} {o : SOp} {t : TypeId} (h : w.heap[b]? = some (.cells (cOp o) t (0, 0))) : nxAt b w = rank o.nx := by
  obtain ⟨_, _, _, _, _, _, h6, _⟩ := op_cells h
  unfold nxAt; rw [h6]
theorem HD.op {B : Nat} {w0 w w1 : World} {s : WS} {o O : SOp} {x y : Int} (h : HD B w0 w s o x y w1) (hB : B < w.heap.size) : HD B w0 w s O x y (w1.setCells w.heap.size 0 (cOp O).toList) := by
  refine ⟨h.1.other h.2.2.1 (by decide) hB 0 _, h.2.1.other (Nat.le_refl _) 0 _, ?_, (far_setCells (by omega) _ 0 w1).trans h.2.2.2.1, (far_setCells (by omega) _ 0 w1).trans h.2.2.2.2.1, (far_setCells (by omega) _ 0 w1).trans h.2.2.2.2.2⟩
  rw [blk_setCells (cOp O).toList 0 _ w1 h.2.2.1, setOp (cOp o) O (by simp)]

/-- At the head of a round. -/
def HR_ (B : Nat) (w0 w : World) (s0 : WS) (x y : Int) (F : (SOp × SRep × Bool × Int) × WS) (wr : World) : Prop :=
  ∃ (n : Nat) (s : WS) (o : SOp) (r : Int), HD B w0 w { s with rd := r } o x y wr ∧ finR x y n s o = F ∧ rank o.nx ≤ n ∧ s.qs.length + rank o.nx ≤ s0.qs.length + 3 ∧ s.t = s0.t

set_option hygiene false in
macro "fin_head " lem:term ", " O:term ", " R:term : tactic => `(tactic| (
  go_upto_region 2 with (first | (go_at_call 17; refine ($lem).mono ?_; rintro e w3 ⟨rfl, ⟨r3, hw3⟩, hk3⟩; have HZ := Aside0.mk (HX.out.kb hB.out hw3 hk3); clear z0 z1 z2 z3 z4 z5 z6 z7 z8 z9 z10 z11 y0 y1 hw3 hk3))
  have HN : Aside0 (w.heap.size + 1 + 1 + 1 < w3.heap.size) := ⟨(Array.getElem?_eq_some_iff.1 HZ.out.2.2.2.2.2).1⟩
  have HU := Aside0.mk (And.intro (HZ.out.below hB.out (below_alloc (below_alloc (Below.refl _ _) (.cells (cOp $O) 31)) (.cells #[.int .u8 ($R).c, .int .u8 ($R).a, .int .u32 ($R).h, .int .u64 ($R).p] 44))) (show Two' w3.heap.size $O $R ((w3.alloc (.cells (cOp $O) 31)).alloc (.cells #[.int .u8 ($R).c, .int .u8 ($R).a, .int .u32 ($R).h, .int .u64 ($R).p] 44)) from ⟨by rw [heap_alloc_old _ _ (by rw [World.size_alloc]; omega)]; exact heap_alloc_new _ _, by rw [show w3.heap.size + 1 = (w3.alloc (.cells (cOp $O) 31)).heap.size by rw [World.size_alloc]]; exact heap_alloc_new _ _⟩))
  clear HZ
  change Code.wp Try.prog _ _ _ ((w3.alloc (.cells (cOp $O) 31)).alloc (.cells #[.int .u8 ($R).c, .int .u8 ($R).a, .int .u32 ($R).h, .int .u64 ($R).p] 44))
  generalize ((w3.alloc (.cells (cOp $O) 31)).alloc (.cells #[.int .u8 ($R).c, .int .u8 ($R).a, .int .u32 ($R).h, .int .u64 ($R).p] 44)) = w4 at HU ⊢
  generalize w3.heap.size = g at HU HN ⊢
  obtain ⟨z0, z1, z2, z3, z4, z5, z6, z7, z8, z9, z10, z11⟩ := op_cells HU.out.1.2.2.1))
set_option maxRecDepth 100000 in
set_option maxHeartbeats 4000000 in
theorem Finish_calls (B : Nat) (s0 : WS) (o0 : SOp) (x y : Int) (w0 w : World) (h : WP B w0 s0 w) (hl : s0.qs.length < 900) (O : SOp) (R : SRep) (b : Bool) (e : Int) (S : WS) (hF : finR x y 3 s0 o0 = ((O, R, b, e), S)) :
    Calls Try.prog 19 #[vW B, vOp o0, .agg #[.int .i64 x, .int .i64 y]] w fun e' w' => e' = .returned (.tuple #[vOp O, vRep R, .bool b, .int .i64 e]) ∧ (∃ r, WP B w0 { S with rd := r } w') ∧ KB B w w' ∧ S.qs.length ≤ s0.qs.length + 3 := by
  have HS : Aside0 (HR_ B w0 w s0 x y ((O, R, b, e), S) ((((w.alloc (.cells (cOp o0) 31)).alloc (.cells #[.int .i64 x, .int .i64 y] 48)).alloc (.cells (cOp SOp.zero) 31)).alloc (.cells #[.int .u8 SRep.zero.c, .int .u8 SRep.zero.a, .int .u32 SRep.zero.h, .int .u64 SRep.zero.p] 44))) := ⟨⟨3, s0, o0, s0.rd, HD.start h o0 x y, hF, rank_le _, by have := rank_le o0.nx; omega, rfl⟩⟩
  have hB : Aside0 (B < w.heap.size) := ⟨h.lt⟩
  have HL := Aside0.mk hl
  clear h hF hl
  go_enter Try.func19, Try.ntmps19
  go_wp2
  change Code.wp Try.prog _ _ _ ((((w.alloc (.cells (cOp o0) 31)).alloc (.cells #[.int .i64 x, .int .i64 y] 48)).alloc (.cells (cOp SOp.zero) 31)).alloc (.cells #[.int .u8 SRep.zero.c, .int .u8 SRep.zero.a, .int .u32 SRep.zero.h, .int .u64 SRep.zero.p] 44))
  generalize ((((w.alloc (.cells (cOp o0) 31)).alloc (.cells #[.int .i64 x, .int .i64 y] 48)).alloc (.cells (cOp SOp.zero) 31)).alloc (.cells #[.int .u8 SRep.zero.c, .int .u8 SRep.zero.a, .int .u32 SRep.zero.h, .int .u64 SRep.zero.p] 44)) = w2 at HS ⊢
  go_loopw [] (fun wr => Aside0 (HR_ B w0 w s0 x y ((O, R, b, e), S) wr)) (fun wr => nxAt w.heap.size wr)
  case atStart => exact HS
  case round =>
    obtain ⟨n, s, o, rr, hHD, hfin, hrk, hlen, ht⟩ := hrel.out
    have HX := Aside0.mk hHD
    have HM : Aside0 (nxAt w.heap.size wr = rank o.nx) := ⟨nxAt_of hHD.2.2.1⟩
    obtain ⟨z0, z1, z2, z3, z4, z5, z6, z7, z8, z9, z10, z11⟩ := op_cells hHD.2.2.1
    obtain ⟨y0, y1⟩ := two_cells hHD.2.2.2.1
    obtain ⟨n, rfl⟩ : ∃ m, n = m + 1 := ⟨n - 1, by have := rank_pos o.nx; omega⟩
    have HRK := Aside0.mk hrk
    have HLEN := Aside0.mk hlen
    have HT := Aside0.mk ht
    clear hHD hrel hrk hlen ht
    unfold finR at hfin
    by_cases hp : placeOf o < 0
    · rw [if_pos hp] at hfin
      obtain ⟨⟨rfl, rfl, rfl, rfl⟩, rfl⟩ : ((o = O ∧ SRep.zero = R ∧ false = b ∧ (170 : Int) = e) ∧ s = S) := by simpa using hfin
      have HP := Aside0.mk hp
      clear hp hfin
      fin_head (Do_over B { s with rd := rr } o x y w0 _ HX.out.1 (by have := HLEN.out; have := HL.out; show s.qs.length < 1000; omega) HP.out), SOp.zero, SRep.zero
      go_wp2_with (first | ((with_reducible refine gate_store (p := 6) (t := 31) rfl ?_); refine store_blk rfl 31 (.tmp 6) (.tmp 31) rfl (w.heap.size + 1 + 1) 0 (cOp o) _ 31 rfl rfl HU.out.1.2.2.2.2.1 (by simp) (by kernel_rfl) (by simp [Value.oneCell']) ?_; intro w5 e5 hw5; have HQ := Aside0.mk (stored_op' (x := o) HU.out.1.1 HU.out.1.2.1 (by have := hB.out; omega) (by omega) (by omega) HU.out.1.2.2.2.2.1 HU.out.1.2.2.2.2.2); rw [← show w5 = _ from e5] at HQ; clear e5 hw5) | ((with_reducible refine gate_store (p := 7) (t := 44) rfl ?_); refine store_blk rfl 44 (.tmp 7) (.tmp 32) rfl (w.heap.size + 1 + 1 + 1) 0 #[.int .u8 SRep.zero.c, .int .u8 SRep.zero.a, .int .u32 SRep.zero.h, .int .u64 SRep.zero.p] _ 44 rfl rfl HQ.out.2.2.2 (by simp) (by kernel_rfl) (by simp [Value.oneCell']) ?_; intro w6 e6 hw6; have HR := Aside0.mk (stored_rep' (x := SRep.zero) HQ.out.1 HQ.out.2.1 (by have := hB.out; omega) (by omega) (by omega) HQ.out.2.2.1 HQ.out.2.2.2); rw [← show w6 = _ from e6] at HR; clear e6 hw6))
      obtain ⟨H5, K5, c1, c2⟩ := HR.out
      clear z0 z1 z2 z3 z4 z5 z6 z7 z8 z9 z10 z11
      obtain ⟨z0, z1, z2, z3, z4, z5, z6, z7, z8, z9, z10, z11⟩ := op_cells c1
      obtain ⟨y0, y1, y2, y3⟩ := rep_cells (r := SRep.zero) c2
      (try simp only [Exit.inBlock, Exit.then])
      refine bodyPost_ret (by simp [results, Try.results19, go_sem, z0, z1, z2, z3, z4, z5, z6, z7, z8, z9, z10, z11, y0, y1, y2, y3]; try rfl) rfl ?_
      exact ⟨rfl, ⟨_, H5⟩, K5, by have := HLEN.out; omega⟩
    rw [if_neg hp] at hfin
    cases he : enb s.t.ready o with
    | false =>
      rw [if_pos he] at hfin
      obtain ⟨⟨rfl, rfl, rfl, rfl⟩, rfl⟩ : ((o = O ∧ SRep.zero = R ∧ false = b ∧ (0 : Int) = e) ∧ s = S) := by simpa using hfin
      have HP := Aside0.mk hp
      have HE := Aside0.mk he
      clear hp hfin he
      fin_head (Do_blocked B { s with rd := rr } o x y w0 _ HX.out.1 (by have := HLEN.out; have := HL.out; show s.qs.length < 1000; omega) (by have := HP.out; omega) HE.out), SOp.zero, SRep.zero
      go_wp2_with (first | ((with_reducible refine gate_store (p := 6) (t := 31) rfl ?_); refine store_blk rfl 31 (.tmp 6) (.tmp 26) rfl (w.heap.size + 1 + 1) 0 (cOp o) _ 31 rfl rfl HU.out.1.2.2.2.2.1 (by simp) (by kernel_rfl) (by simp [Value.oneCell']) ?_; intro w5 e5 hw5; have HQ := Aside0.mk (stored_op' (x := o) HU.out.1.1 HU.out.1.2.1 (by have := hB.out; omega) (by omega) (by omega) HU.out.1.2.2.2.2.1 HU.out.1.2.2.2.2.2); rw [← show w5 = _ from e5] at HQ; clear e5 hw5) | ((with_reducible refine gate_store (p := 7) (t := 44) rfl ?_); refine store_blk rfl 44 (.tmp 7) (.tmp 27) rfl (w.heap.size + 1 + 1 + 1) 0 #[.int .u8 SRep.zero.c, .int .u8 SRep.zero.a, .int .u32 SRep.zero.h, .int .u64 SRep.zero.p] _ 44 rfl rfl HQ.out.2.2.2 (by simp) (by kernel_rfl) (by simp [Value.oneCell']) ?_; intro w6 e6 hw6; have HR := Aside0.mk (stored_rep' (x := SRep.zero) HQ.out.1 HQ.out.2.1 (by have := hB.out; omega) (by omega) (by omega) HQ.out.2.2.1 HQ.out.2.2.2); rw [← show w6 = _ from e6] at HR; clear e6 hw6))
      obtain ⟨H5, K5, c1, c2⟩ := HR.out
      clear z0 z1 z2 z3 z4 z5 z6 z7 z8 z9 z10 z11
      obtain ⟨z0, z1, z2, z3, z4, z5, z6, z7, z8, z9, z10, z11⟩ := op_cells c1
      obtain ⟨y0, y1, y2, y3⟩ := rep_cells (r := SRep.zero) c2
      (try simp only [Exit.inBlock, Exit.then])
      refine bodyPost_ret (by simp [results, Try.results19, go_sem, z0, z1, z2, z3, z4, z5, z6, z7, z8, z9, z10, z11, y0, y1, y2, y3]; try rfl) rfl ?_
      exact ⟨rfl, ⟨_, H5⟩, K5, by have := HLEN.out; omega⟩
    | true =>
      rw [if_neg (by rw [he]; decide)] at hfin
      have HP := Aside0.mk hp
      have HE := Aside0.mk he
      clear hp he
      cases hq : (doOp s.t o).2.2 with
      | true =>
        rw [if_pos hq] at hfin
        obtain ⟨⟨h1, h2, rfl, rfl⟩, rfl⟩ : (((doOp s.t o).1 = O ∧ (doOp s.t o).2.1 = R ∧ true = b ∧ (0 : Int) = e) ∧ asked s o x y = S) := by simpa using hfin
        have HQD : Aside0 (doOp s.t o = (O, R, true)) := ⟨by rw [← h1, ← h2, ← hq]⟩
        clear hfin h1 h2 hq
        fin_head (Do_done B { s with rd := rr } o x y w0 _ HX.out.1 (by have := HLEN.out; have := HL.out; show s.qs.length < 1000; omega) (by have := HP.out; omega) HE.out O R true HQD.out), O, R
        go_wp2
        clear z0 z1 z2 z3 z4 z5 z6 z7 z8 z9 z10 z11
        refine wp_region_held_drew (S := Two' g O R) (by kernel_rfl) HU.out.2 (fun hHeld => ?_)
        refine take_at (i := 0) (v := vOp O) 36 rfl rfl (by kernel_rfl) (by kernel_rfl) (by kernel_rfl) (fun _ _ _ h => h) (yields_blk (by rfl) 31 (.tmp 10) rfl g _ 31 rfl _ (fun w h => h.1) Try.underlying31 rfl (by kernel_rfl)) hHeld ?_
        try simp only [Act.put, List.setIfInBounds_toArray, List.set_cons_zero, List.set_cons_succ]
        refine take_at (i := 1) (v := vRep R) 37 rfl rfl (by kernel_rfl) (by kernel_rfl) (by kernel_rfl) (fun _ _ _ h => h) (yields_blk (by rfl) 44 (.tmp 11) rfl (g + 1) _ 44 rfl _ (fun w h => h.2) Try.underlying44 rfl (by kernel_rfl)) hHeld ?_
        try simp only [Act.put, List.setIfInBounds_toArray, List.set_cons_zero, List.set_cons_succ]
        have HU1 : Aside0 (HD B w0 w { (asked { s with rd := rr } o x y) with rd := r3 } o x y w4.drew ∧ Two' g O R w4.drew) := ⟨HD.below HU.out.1 hB.out (pw_below_drewN (Below.refl _ _) 1), HU.out.2⟩
        generalize w4.drew = w4' at HU1 hHeld ⊢
        refine wpAnyH_ready (rs := [2]) (by kernel_rfl) (by simp) ?_
        refine AllReadyH.cons rfl (fun K hK => ?_) AllReadyH.nil
        rw [if_pos (by rfl)]
        refine store_at rfl 31 (.tmp 6) (.tmp 36) rfl (w.heap.size + 1 + 1) 0 (cOp O) rfl rfl (there_of_block HU1.out.1.2.2.2.2.1 0 12 (by simp)) (by kernel_rfl) (by simp [Value.oneCell']) ?_
        have e2 := stored_op' (x := O) HU1.out.1.1 HU1.out.1.2.1 (by have := hB.out; omega) (by omega) (by omega) HU1.out.1.2.2.2.2.1 HU1.out.1.2.2.2.2.2
        have HQ := Aside0.mk (And.intro e2 (show Two' g O R _ from And.intro ((far_setCells (g := w.heap.size + 1 + 1) (k := g) (by have := HN.out; omega) (cOp O).toList 0 w4').trans HU1.out.2.1) ((far_setCells (g := w.heap.size + 1 + 1) (k := g + 1) (by have := HN.out; omega) (cOp O).toList 0 w4').trans HU1.out.2.2)))
        clear e2 hHeld
        generalize w4'.setCells (w.heap.size + 1 + 1) 0 (cOp O).toList = w5 at HQ ⊢
        refine hK.out _ _ HQ.out.2 (fun hHeld => ?_)
        clear hK K
        try simp only [Act.put, List.setIfInBounds_toArray, List.set_cons_zero, List.set_cons_succ]
        refine wpAnyH_ready (rs := [3]) (by kernel_rfl) (by simp) ?_
        refine AllReadyH.cons rfl (fun K hK => ?_) AllReadyH.nil
        rw [if_pos (by rfl)]
        refine store_at rfl 44 (.tmp 7) (.tmp 37) rfl (w.heap.size + 1 + 1 + 1) 0 #[.int .u8 R.c, .int .u8 R.a, .int .u32 R.h, .int .u64 R.p] rfl rfl (there_of_block HQ.out.1.2.2.2 0 4 (by simp)) (by kernel_rfl) (by simp [Value.oneCell']) ?_
        have e2 := stored_rep' (x := R) HQ.out.1.1 HQ.out.1.2.1 (by have := hB.out; omega) (by omega) (by omega) HQ.out.1.2.2.1 HQ.out.1.2.2.2
        have HR := Aside0.mk (And.intro e2 (show Two' g O R _ from And.intro ((far_setCells (g := w.heap.size + 1 + 1 + 1) (k := g) (by have := HN.out; omega) #[Value.int .u8 R.c, Value.int .u8 R.a, Value.int .u32 R.h, Value.int .u64 R.p].toList 0 w5).trans HQ.out.2.1) ((far_setCells (g := w.heap.size + 1 + 1 + 1) (k := g + 1) (by have := HN.out; omega) #[Value.int .u8 R.c, Value.int .u8 R.a, Value.int .u32 R.h, Value.int .u64 R.p].toList 0 w5).trans HQ.out.2.2)))
        clear e2 hHeld
        generalize w5.setCells (w.heap.size + 1 + 1 + 1) 0 #[Value.int .u8 R.c, Value.int .u8 R.a, Value.int .u32 R.h, Value.int .u64 R.p].toList = w6 at HR ⊢
        refine hK.out _ _ HR.out.2 (fun hHeld => ?_)
        clear hK K
        try simp only [Act.put, List.setIfInBounds_toArray, List.set_cons_zero, List.set_cons_succ]
        refine take_at (i := 4) (v := .bool true) 8 rfl rfl (by kernel_rfl) (by kernel_rfl) (by kernel_rfl) (fun _ _ _ h => h) (Or.inl ⟨by rfl, fun w _ => by rfl⟩) hHeld ?_
        try simp only [Act.put, List.setIfInBounds_toArray, List.set_cons_zero, List.set_cons_succ]
        refine take_at (i := 5) (v := .int .i64 0) 9 rfl rfl (by kernel_rfl) (by kernel_rfl) (by kernel_rfl) (fun _ _ _ h => h) (Or.inl ⟨by rfl, fun w _ => by rfl⟩) hHeld ?_
        try simp only [Act.put, List.setIfInBounds_toArray, List.set_cons_zero, List.set_cons_succ]
        refine wpAnyH_done (by kernel_rfl) ?_ _
        clear hHeld
        go_wp2
        obtain ⟨H5, K5, c1, c2⟩ := HR.out.1
        rw [asked_rd] at H5
        obtain ⟨z0, z1, z2, z3, z4, z5, z6, z7, z8, z9, z10, z11⟩ := op_cells c1
        obtain ⟨y0, y1, y2, y3⟩ := rep_cells (r := R) c2
        (try simp only [Exit.inBlock, Exit.then])
        refine bodyPost_ret (by simp [results, Try.results19, go_sem, z0, z1, z2, z3, z4, z5, z6, z7, z8, z9, z10, z11, y0, y1, y2, y3]; try rfl) rfl ?_
        exact ⟨rfl, ⟨_, H5⟩, K5, by have := HLEN.out; have := rank_pos o.nx; rw [asked_len]; omega⟩
      | false =>
        rw [if_neg (by rw [hq]; decide)] at hfin
        obtain ⟨O', hO⟩ : ∃ O', (doOp s.t o).1 = O' := ⟨_, rfl⟩
        obtain ⟨R', hR'⟩ : ∃ R', (doOp s.t o).2.1 = R' := ⟨_, rfl⟩
        have HQD : Aside0 (doOp s.t o = (O', R', false)) := ⟨by rw [← hO, ← hR', ← hq]⟩
        have HDEC : Aside0 (rank O'.nx < rank o.nx) := ⟨by rw [← hO]; exact rank_do s.t o hq⟩
        have HFIN : Aside0 (finR x y n (asked s o x y) O' = ((O, R, b, e), S)) := ⟨by rw [← hO]; exact hfin⟩
        clear hfin hO hR' hq
        fin_head (Do_done B { s with rd := rr } o x y w0 _ HX.out.1 (by have := HLEN.out; have := HL.out; show s.qs.length < 1000; omega) (by have := HP.out; omega) HE.out O' R' false HQD.out), O', R'
        clear z0 z1 z2 z3 z4 z5 z6 z7 z8 z9 z10 z11
        obtain ⟨z0, z1, z2, z3, z4, z5, z6, z7, z8, z9, z10, z11⟩ := op_cells HU.out.2.1
        go_wp2_with (first | ((with_reducible refine gate_store (p := 4) (t := 31) rfl ?_); refine store_blk rfl 31 (.tmp 4) (.tmp 38) rfl w.heap.size 0 (cOp O') _ 31 rfl rfl HU.out.1.2.2.1 (by simp) (by kernel_rfl) (by simp [Value.oneCell']) ?_; intro w5 e5 hw5; have HQ := Aside0.mk (HU.out.1.op (O := O') hB.out); rw [← show w5 = _ from e5] at HQ; clear e5 hw5))
        refine ⟨?rel, ?measure⟩
        case rel =>
          refine ⟨_, _, _, _, _, _, _, _, _, _, _, _, _, _, _, _, _, _, _, _, _, _, _, _, _, _, _, _, _, _, _, ?_, rfl⟩
          exact ⟨⟨n, asked s o x y, O', r3, by have := HQ.out; rw [asked_rd] at this; exact this, HFIN.out, by have := HDEC.out; have := HRK.out; omega, by have := HDEC.out; have := HLEN.out; rw [asked_len]; omega, by rw [asked_t]; exact HT.out⟩⟩
        case measure => rw [HM.out, nxAt_of HQ.out.2.2.1]; exact HDEC.out
end Go.Proofs.Ytooddkaepkjidaa.QSt
