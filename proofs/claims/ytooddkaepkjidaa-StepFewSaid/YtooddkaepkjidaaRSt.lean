/- Step: the reference's Finish, walked by hand. Written by a program of this repo (tools/gen_rfin.py). -/
import Derived.Test.YtooddkaepkjidaaPSt
namespace Go.Proofs.Ytooddkaepkjidaa.QSt
open Go.RowKit Go.Proofs.YtooddkaepkjidaaW.PrintWords Go.Proofs.YtooddkaepkjidaaW.PrintLast Go.Proofs.YtooddkaepkjidaaW.PrintMore
set_option linter.unusedVariables false
set_option linter.unusedSimpArgs false
attribute [local go_sem] cs_off

def rfin (t : STold) : Nat → SOp → SOp × SRep × Bool × Int
  | 0, o => (o, SRep.zero, false, 0)
  | n + 1, o => if placeOf o < 0 then (o, SRep.zero, false, 170) else if enb t.ready o = false then (o, SRep.zero, false, 0) else
    if (doOp t o).2.2 = true then ((doOp t o).1, (doOp t o).2.1, true, 0) else rfin t n (doOp t o).1
theorem finR_fst (x y : Int) : ∀ (n : Nat) (s : WS) (o : SOp), (finR x y n s o).1 = rfin s.t n o
  | 0, _, _ => rfl
  | n + 1, s, o => by
    unfold finR rfin
    by_cases hp : placeOf o < 0
    · rw [if_pos hp, if_pos hp]
    · rw [if_neg hp, if_neg hp]
      by_cases he : enb s.t.ready o = false
      · rw [if_pos he, if_pos he]
      · rw [if_neg he, if_neg he]
        by_cases hq : (doOp s.t o).2.2 = true
        · rw [if_pos hq, if_pos hq]
        · rw [if_neg hq, if_neg hq, finR_fst x y n, asked_t]
/-- At the head of a round. -/
def RR_ (w : World) (t : STold) (F : SOp × SRep × Bool × Int) (wr : World) : Prop :=
  ∃ (n : Nat) (o : SOp), BE w t o SOp.zero SRep.zero wr ∧ rfin t n o = F ∧ rank o.nx ≤ n

set_option hygiene false in
macro "rfin_head " lem:term ", " O:term ", " R:term : tactic => `(tactic| (
  go_upto_region 2 with (first | ((with_reducible refine gate_ (.load 31 (.tmp 3)) rfl ?_); refine load_blk rfl 31 (.tmp 3) rfl (w.heap.size + 1) _ 31 rfl _ HX.out.2.1 Try.underlying31 rfl (by kernel_rfl) ?_) | ((with_reducible refine gate_ (.load 46 (.tmp 2)) rfl ?_); refine load_blk rfl 46 (.tmp 2) rfl w.heap.size _ 46 rfl _ HX.out.1 Try.underlying46 rfl (by kernel_rfl) ?_) | (go_at_call 18; refine ($lem).mono ?_; rintro e w3 ⟨rfl, hb3⟩; have HZ := Aside0.mk (HX.out.below hb3); clear hb3))
  have HN : Aside0 (w.heap.size + 1 + 1 + 1 < w3.heap.size) := ⟨(Array.getElem?_eq_some_iff.1 HZ.out.2.2.2.1).1⟩
  have HU := Aside0.mk (And.intro (HZ.out.below (below_alloc (below_alloc (Below.refl _ _) (.cells (cOp $O) 31)) (.cells (cRep $R) 44))) (show S2 w3.heap.size $O $R ((w3.alloc (.cells (cOp $O) 31)).alloc (.cells (cRep $R) 44)) from ⟨by rw [heap_alloc_old _ _ (by rw [World.size_alloc]; omega)]; exact heap_alloc_new _ _, by rw [show w3.heap.size + 1 = (w3.alloc (.cells (cOp $O) 31)).heap.size by rw [World.size_alloc]]; exact heap_alloc_new _ _⟩))
  clear HZ
  change Code.wp Try.prog _ _ _ ((w3.alloc (.cells (cOp $O) 31)).alloc (.cells (cRep $R) 44))
  generalize ((w3.alloc (.cells (cOp $O) 31)).alloc (.cells (cRep $R) 44)) = w4 at HU ⊢
  generalize w3.heap.size = g at HU HN ⊢))
set_option maxRecDepth 100000 in
set_option maxHeartbeats 4000000 in
theorem RFinish_calls (t : STold) (o0 : SOp) (w : World) (O : SOp) (R : SRep) (b : Bool) (e : Int) (hF : rfin t 3 o0 = (O, R, b, e)) :
    Calls Try.prog 20 #[vTold t, vOp o0] w fun e' w' => e' = .returned (.tuple #[vOp O, vRep R, .bool b, .int .i64 e]) ∧ Below w.heap.size w w' := by
  have HS : Aside0 (RR_ w t (O, R, b, e) ((((w.alloc (.cells (cTold t) 46)).alloc (.cells (cOp o0) 31)).alloc (.cells (cOp SOp.zero) 31)).alloc (.cells (cRep SRep.zero) 44))) := ⟨⟨3, o0, BE.start w t o0, hF, rank_le _⟩⟩
  clear hF
  go_enter Try.func20, Try.ntmps20
  go_wp2
  change Code.wp Try.prog _ _ _ ((((w.alloc (.cells (cTold t) 46)).alloc (.cells (cOp o0) 31)).alloc (.cells (cOp SOp.zero) 31)).alloc (.cells (cRep SRep.zero) 44))
  generalize ((((w.alloc (.cells (cTold t) 46)).alloc (.cells (cOp o0) 31)).alloc (.cells (cOp SOp.zero) 31)).alloc (.cells (cRep SRep.zero) 44)) = w2 at HS ⊢
  go_loopw [] (fun wr => Aside0 (RR_ w t (O, R, b, e) wr)) (fun wr => nxAt (w.heap.size + 1) wr)
  case atStart => exact HS
  case round =>
    obtain ⟨n, o, hBE, hfin, hrk⟩ := hrel.out
    have HX := Aside0.mk hBE
    have HM : Aside0 (nxAt (w.heap.size + 1) wr = rank o.nx) := ⟨nxAt_of hBE.2.1⟩
    obtain ⟨n, rfl⟩ : ∃ m, n = m + 1 := ⟨n - 1, by have := rank_pos o.nx; omega⟩
    have HRK := Aside0.mk hrk
    clear hBE hrel hrk
    unfold rfin at hfin
    by_cases hp : placeOf o < 0
    · rw [if_pos hp] at hfin
      obtain ⟨rfl, rfl, rfl, rfl⟩ : o = O ∧ SRep.zero = R ∧ false = b ∧ (170 : Int) = e := by simpa using hfin
      have HP := Aside0.mk hp
      clear hp hfin
      rfin_head (RDo_over t o _ HP.out), SOp.zero, SRep.zero
      go_wp2_with (first | ((with_reducible refine gate_ (.load 31 (.tmp 3)) rfl ?_); refine load_blk rfl 31 (.tmp 3) rfl (w.heap.size + 1) _ 31 rfl _ HU.out.1.2.1 Try.underlying31 rfl (by kernel_rfl) ?_) | ((with_reducible refine gate_store (p := 4) (t := 31) rfl ?_); refine store_blk rfl 31 (.tmp 4) (.tmp 28) rfl (w.heap.size + 1 + 1) 0 (cOp o) _ 31 rfl rfl HU.out.1.2.2.1 (by simp) (by kernel_rfl) (by simp [Value.oneCell']) ?_; intro w5 e5 hw5; have HQ := Aside0.mk (HU.out.1.st1 o); rw [← show w5 = _ from e5] at HQ; clear e5 hw5) | ((with_reducible refine gate_store (p := 5) (t := 44) rfl ?_); refine store_blk rfl 44 (.tmp 5) (.tmp 29) rfl (w.heap.size + 1 + 1 + 1) 0 (cRep SRep.zero) _ 44 rfl rfl HQ.out.2.2.2.1 (by simp) (by kernel_rfl) (by simp [Value.oneCell']) ?_; intro w6 e6 hw6; have HR := Aside0.mk (HQ.out.st2 SRep.zero); rw [← show w6 = _ from e6] at HR; clear e6 hw6))
      obtain ⟨c4, c3, c1, c2, hb⟩ := HR.out
      obtain ⟨z0, z1, z2, z3, z4, z5, z6, z7, z8, z9, z10, z11⟩ := op_cells c1
      obtain ⟨y0, y1, y2, y3⟩ := rep_cells (r := SRep.zero) c2
      (try simp only [Exit.inBlock, Exit.then])
      refine bodyPost_ret (by simp [results, Try.results20, go_sem, z0, z1, z2, z3, z4, z5, z6, z7, z8, z9, z10, z11, y0, y1, y2, y3]; try rfl) rfl ?_
      exact ⟨by first | rfl | simp, hb⟩
    rw [if_neg hp] at hfin
    cases he : enb t.ready o with
    | false =>
      rw [if_pos he] at hfin
      obtain ⟨rfl, rfl, rfl, rfl⟩ : o = O ∧ SRep.zero = R ∧ false = b ∧ (0 : Int) = e := by simpa using hfin
      have HP := Aside0.mk hp
      have HE := Aside0.mk he
      clear hp hfin he
      rfin_head (RDo_blocked t o _ HP.out HE.out), SOp.zero, SRep.zero
      go_wp2_with (first | ((with_reducible refine gate_ (.load 31 (.tmp 3)) rfl ?_); refine load_blk rfl 31 (.tmp 3) rfl (w.heap.size + 1) _ 31 rfl _ HU.out.1.2.1 Try.underlying31 rfl (by kernel_rfl) ?_) | ((with_reducible refine gate_store (p := 4) (t := 31) rfl ?_); refine store_blk rfl 31 (.tmp 4) (.tmp 23) rfl (w.heap.size + 1 + 1) 0 (cOp o) _ 31 rfl rfl HU.out.1.2.2.1 (by simp) (by kernel_rfl) (by simp [Value.oneCell']) ?_; intro w5 e5 hw5; have HQ := Aside0.mk (HU.out.1.st1 o); rw [← show w5 = _ from e5] at HQ; clear e5 hw5) | ((with_reducible refine gate_store (p := 5) (t := 44) rfl ?_); refine store_blk rfl 44 (.tmp 5) (.tmp 24) rfl (w.heap.size + 1 + 1 + 1) 0 (cRep SRep.zero) _ 44 rfl rfl HQ.out.2.2.2.1 (by simp) (by kernel_rfl) (by simp [Value.oneCell']) ?_; intro w6 e6 hw6; have HR := Aside0.mk (HQ.out.st2 SRep.zero); rw [← show w6 = _ from e6] at HR; clear e6 hw6))
      obtain ⟨c4, c3, c1, c2, hb⟩ := HR.out
      obtain ⟨z0, z1, z2, z3, z4, z5, z6, z7, z8, z9, z10, z11⟩ := op_cells c1
      obtain ⟨y0, y1, y2, y3⟩ := rep_cells (r := SRep.zero) c2
      (try simp only [Exit.inBlock, Exit.then])
      refine bodyPost_ret (by simp [results, Try.results20, go_sem, z0, z1, z2, z3, z4, z5, z6, z7, z8, z9, z10, z11, y0, y1, y2, y3]; try rfl) rfl ?_
      exact ⟨by first | rfl | simp, hb⟩
    | true =>
      rw [if_neg (by rw [he]; decide)] at hfin
      have HD : Aside0 (∀ w, Calls Try.prog 18 #[vTold t, vOp o] w fun e w' => e = .returned (.tuple #[vOp (doOp t o).1, vRep (doOp t o).2.1, .bool (doOp t o).2.2, .int .i64 0]) ∧ Below w.heap.size w w') := ⟨fun w => by
        have := RDo_calls t o w
        rw [show doR t o = ((doOp t o).1, (doOp t o).2.1, (doOp t o).2.2, 0) by unfold doR; rw [if_neg hp, if_pos he]] at this
        exact this⟩
      clear hp he
      cases hq : (doOp t o).2.2 with
      | true =>
        rw [if_pos hq] at hfin
        obtain ⟨h1, h2, rfl, rfl⟩ : (doOp t o).1 = O ∧ (doOp t o).2.1 = R ∧ true = b ∧ (0 : Int) = e := by simpa using hfin
        rw [h1, h2, hq] at HD
        clear hfin h1 h2 hq
        rfin_head (HD.out _), O, R
        go_wp2
        refine wp_region_held_drew (S := S2 g O R) (by kernel_rfl) HU.out.2 (fun hHeld => ?_)
        refine take_at (i := 0) (v := vOp O) 33 rfl rfl (by kernel_rfl) (by kernel_rfl) (by kernel_rfl) (fun _ _ _ h => h) (yields_blk (by rfl) 31 (.tmp 8) rfl g _ 31 rfl _ (fun w h => h.1) Try.underlying31 rfl (by kernel_rfl)) hHeld ?_
        try simp only [Act.put, List.setIfInBounds_toArray, List.set_cons_zero, List.set_cons_succ]
        refine take_at (i := 1) (v := vRep R) 34 rfl rfl (by kernel_rfl) (by kernel_rfl) (by kernel_rfl) (fun _ _ _ h => h) (yields_blk (by rfl) 44 (.tmp 9) rfl (g + 1) _ 44 rfl _ (fun w h => h.2) Try.underlying44 rfl (by kernel_rfl)) hHeld ?_
        try simp only [Act.put, List.setIfInBounds_toArray, List.set_cons_zero, List.set_cons_succ]
        have HU1 : Aside0 (BE w t o SOp.zero SRep.zero w4.drew) := ⟨HU.out.1.below (pw_below_drewN (Below.refl _ _) 1)⟩
        generalize w4.drew = w5 at HU1 hHeld ⊢
        refine wpAnyH_ready (rs := [2]) (by kernel_rfl) (by simp) ?_
        refine AllReadyH.cons rfl (fun K hK => ?_) AllReadyH.nil
        rw [if_pos (by rfl)]
        refine store_at rfl 31 (.tmp 4) (.tmp 33) rfl (w.heap.size + 1 + 1) 0 (cOp O) rfl rfl (there_of_block HU1.out.2.2.1 0 12 (by simp)) (by kernel_rfl) (by simp [Value.oneCell']) ?_
        have HQ := Aside0.mk (HU1.out.st1 O)
        have hS : S2 g O R (w5.setCells (w.heap.size + 1 + 1) 0 (cOp O).toList) := ⟨(far_setCells (by have := HN.out; omega) _ 0 w5).trans hHeld.1, (far_setCells (by have := HN.out; omega) _ 0 w5).trans hHeld.2⟩
        clear hHeld HU1
        generalize w5.setCells (w.heap.size + 1 + 1) 0 (cOp O).toList = w6 at HQ hS ⊢
        refine hK.out _ _ hS (fun hHeld => ?_)
        clear hK K hS
        try simp only [Act.put, List.setIfInBounds_toArray, List.set_cons_zero, List.set_cons_succ]
        refine wpAnyH_ready (rs := [3]) (by kernel_rfl) (by simp) ?_
        refine AllReadyH.cons rfl (fun K hK => ?_) AllReadyH.nil
        rw [if_pos (by rfl)]
        refine store_at rfl 44 (.tmp 5) (.tmp 34) rfl (w.heap.size + 1 + 1 + 1) 0 (cRep R) rfl rfl (there_of_block HQ.out.2.2.2.1 0 4 (by simp)) (by kernel_rfl) (by simp [Value.oneCell']) ?_
        have HR := Aside0.mk (HQ.out.st2 R)
        have hS : S2 g O R (w6.setCells (w.heap.size + 1 + 1 + 1) 0 (cRep R).toList) := ⟨(far_setCells (by have := HN.out; omega) _ 0 w6).trans hHeld.1, (far_setCells (by have := HN.out; omega) _ 0 w6).trans hHeld.2⟩
        clear hHeld HQ
        generalize w6.setCells (w.heap.size + 1 + 1 + 1) 0 (cRep R).toList = w7 at HR hS ⊢
        refine hK.out _ _ hS (fun hHeld => ?_)
        clear hK K hS
        try simp only [Act.put, List.setIfInBounds_toArray, List.set_cons_zero, List.set_cons_succ]
        refine take_at (i := 4) (v := .bool true) 6 rfl rfl (by kernel_rfl) (by kernel_rfl) (by kernel_rfl) (fun _ _ _ h => h) (Or.inl ⟨by rfl, fun w _ => by first | rfl | (go_simp; done) | (go_simp; rfl)⟩) hHeld ?_
        try simp only [Act.put, List.setIfInBounds_toArray, List.set_cons_zero, List.set_cons_succ]
        refine take_at (i := 5) (v := .int .i64 0) 7 rfl rfl (by kernel_rfl) (by kernel_rfl) (by kernel_rfl) (fun _ _ _ h => h) (Or.inl ⟨by rfl, fun w _ => by first | rfl | (go_simp; done) | (go_simp; rfl)⟩) hHeld ?_
        try simp only [Act.put, List.setIfInBounds_toArray, List.set_cons_zero, List.set_cons_succ]
        refine wpAnyH_done (by kernel_rfl) ?_ _
        clear hHeld
        go_wp2
        obtain ⟨c4, c3, c1, c2, hb⟩ := HR.out
        obtain ⟨z0, z1, z2, z3, z4, z5, z6, z7, z8, z9, z10, z11⟩ := op_cells c1
        obtain ⟨y0, y1, y2, y3⟩ := rep_cells (r := R) c2
        (try simp only [Exit.inBlock, Exit.then])
        refine bodyPost_ret (by simp [results, Try.results20, go_sem, z0, z1, z2, z3, z4, z5, z6, z7, z8, z9, z10, z11, y0, y1, y2, y3]; try rfl) rfl ?_
        exact ⟨by first | rfl | simp, hb⟩
      | false =>
        rw [if_neg (by rw [hq]; decide)] at hfin
        obtain ⟨O', hO⟩ : ∃ O', (doOp t o).1 = O' := ⟨_, rfl⟩
        obtain ⟨R', hR'⟩ : ∃ R', (doOp t o).2.1 = R' := ⟨_, rfl⟩
        have HDEC : Aside0 (rank O'.nx < rank o.nx) := ⟨by rw [← hO]; exact rank_do t o hq⟩
        have HFIN : Aside0 (rfin t n O' = (O, R, b, e)) := ⟨by rw [← hO]; exact hfin⟩
        rw [hO, hR', hq] at HD
        clear hfin hO hR' hq
        rfin_head (HD.out _), O', R'
        go_wp2_with (first | ((with_reducible refine gate_ (.load 31 (.tmp 8)) rfl ?_); refine load_blk rfl 31 (.tmp 8) rfl g _ 31 rfl _ HU.out.2.1 Try.underlying31 rfl (by kernel_rfl) ?_) | ((with_reducible refine gate_store (p := 3) (t := 31) rfl ?_); refine store_blk rfl 31 (.tmp 3) (.tmp 35) rfl (w.heap.size + 1) 0 (cOp O') _ 31 rfl rfl HU.out.1.2.1 (by simp) (by kernel_rfl) (by simp [Value.oneCell']) ?_; intro w5 e5 hw5; have HQ := Aside0.mk (HU.out.1.op O'); rw [← show w5 = _ from e5] at HQ; clear e5 hw5))
        refine ⟨?rel, ?measure⟩
        case rel =>
          refine ⟨_, _, _, _, _, _, _, _, _, _, _, _, _, _, _, _, _, _, _, _, _, _, _, _, _, _, _, _, _, _, ?_, rfl⟩
          exact ⟨⟨n, O', HQ.out, HFIN.out, by have := HDEC.out; have := HRK.out; omega⟩⟩
        case measure => rw [HM.out, nxAt_of HQ.out.2.1]; exact HDEC.out
end Go.Proofs.Ytooddkaepkjidaa.QSt
