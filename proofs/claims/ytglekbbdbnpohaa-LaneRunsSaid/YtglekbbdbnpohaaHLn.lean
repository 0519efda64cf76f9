/- Lane: First, Take. -/
import Derived.Test.YtglekbbdbnpohaaGLn
namespace Go.Proofs.Ytglekbbdbnpohaa.QLn
open Go.RowKit Go.Proofs.YtglekbbdbnpohaaW.PrintWords Go.Proofs.YtglekbbdbnpohaaW.PrintLast Go.Proofs.YtglekbbdbnpohaaW.PrintMore
set_option linter.unusedVariables false
set_option linter.unusedSimpArgs false
def firstF (s : LS) : Value := if s.head = s.ready then .tuple #[.agg (aStamp 0 0), .agg (aTick 0 0), .bool false]
  else .tuple #[.agg (aStamp (s.ring (pl s s.head)).tk (s.ring (pl s s.head)).st), .agg (aTick s.head s.epoch), .bool true]
set_option maxRecDepth 100000 in
set_option maxHeartbeats 2000000 in
theorem First_calls (b : Nat) (s : LS) (hc : 0 < s.credit) (hh : U64 s.head) (hp : Pw s.size) (w : World) (h : Ln w b s) : Calls Try.prog 23 #[.pointer (some ⟨b, 0, none⟩)] w fun e w' =>
    e = .returned (firstF s) ∧ Below w.heap.size w w' := by
  have HH := Aside0.mk hh
  have HP := Aside0.mk hp
  have d1 : decide (s.credit > 0) = true := decide_eq_true hc
  have HB0 := Aside0.mk (((Bd.start h).alloc (.cells (aStamp 0 0) 38)).alloc (.cells (aTick 0 0) 34))
  have hgne : (w.alloc (.cells (aStamp 0 0) 38)).heap.size ≠ b := by have := h.lt; rw [World.size_alloc]; omega
  rw [show (w.alloc (.cells (aStamp 0 0) 38)).heap.size = w.heap.size + 1 from World.size_alloc _ _] at HB0 hgne
  have HW0 : Aside0 (Below w.heap.size w ((w.alloc (.cells (aStamp 0 0) 38)).alloc (.cells (aTick 0 0) 34))) := ⟨((Below.refl _ _).alloc (Nat.le_refl _) _).alloc (by simp) _⟩
  clear h hc hh hp
  go_enter Try.func23, Try.ntmps23
  go_upto_region 1 with fail
  generalize (w.alloc (.cells (aStamp 0 0) 38)).alloc (.cells (aTick 0 0) 34) = w1 at HB0 HW0 ⊢
  have c6 : w1.cell? ⟨b, 325, none⟩ = some (.int .u64 s.head) := HB0.out.ln.cell 325 (by omega)
  have c7 : w1.cell? ⟨b, 326, none⟩ = some (.int .u64 s.ready) := HB0.out.ln.cell 326 (by omega)
  have c9 : w1.cell? ⟨b, 328, none⟩ = some (.int .u64 s.epoch) := HB0.out.ln.cell 328 (by omega)
  have HI : Aside0 (∀ k : Nat, Calls Try.prog 34 #[.pointer (some ⟨b, 0, none⟩)] (w1.drewN k) fun e w' => e = .returned (.bool true) ∧ ∃ nd, w' = (w1.drewN k).drewN nd) := ⟨fun k => by
    have := is_callsD b s _ (HB0.out.ln.below (pw_below_drewN (Below.refl _ _) k))
    rwa [d1] at this⟩
  by_cases h1 : s.head = s.ready
  · have e1 : (s.head == s.ready) = true := by simp [h1]
    have HF : Aside0 (firstF s = .tuple #[.agg (aStamp 0 0), .agg (aTick 0 0), .bool false]) := ⟨by unfold firstF; rw [if_pos h1]⟩
    clear h1
    go_quiet (first | (go_at_call 34; refine (HI.out _).mono ?_; rintro e1 w2 ⟨rfl, ⟨nd, rfl⟩⟩; (try first | exact ⟨rfl, _, World.drewN_drewN _ _ _⟩ | exact ⟨rfl, _, Eq.trans (World.drewN_drewN _ _ _) (congrArg (World.drewN _) (Nat.add_assoc _ _ _))⟩)))
    have hr0 : (w1.drewN nq).heap[w.heap.size]? = some (.cells (aStamp 0 0) 38 (0, 0)) := (HB0.out.obj (w.heap.size, _) (List.mem_cons_of_mem _ List.mem_cons_self)).1
    have hr1 : (w1.drewN nq).heap[w.heap.size + 1]? = some (.cells (aTick 0 0) 34 (0, 0)) := (HB0.out.obj (w.heap.size + 1, _) List.mem_cons_self).1
    have HBQ : Aside0 (Below w.heap.size w (w1.drewN nq)) := ⟨pw_below_drewN HW0.out nq⟩
    clear HI HB0 HW0 c6 c7 c9
    generalize w1.drewN nq = w3 at HBQ hr0 hr1 ⊢
    go_wp2_with (first | ((with_reducible refine gate_store (t := 38) (p := 2) rfl ?_); refine store_blk rfl 38 (.tmp 2) (.tmp 19) rfl w.heap.size 0 (aStamp 0 0) (aStamp 0 0) 38 rfl rfl hr0 (by simp) (by kernel_rfl) (by kernel_rfl) ?_; intro w7 hw7 hr7; have HW7 := Aside0.mk (And.intro hw7 hr7); have hr2 : w7.heap[w.heap.size + 1]? = some (.cells (aTick 0 0) 34 (0, 0)) := (by rw [hw7, far_setCells (by omega)]; exact hr1); clear hw7 hr7) | ((with_reducible refine gate_store (t := 34) (p := 3) rfl ?_); refine store_blk rfl 34 (.tmp 3) (.tmp 20) rfl (w.heap.size + 1) 0 (aTick 0 0) (aTick 0 0) 34 rfl rfl hr2 (by simp) (by kernel_rfl) (by kernel_rfl) ?_; intro w8 hw8 hr8; have HW8 := Aside0.mk (And.intro hw8 hr8); clear hw8 hr8))
    rw [HF.out]
    exact bodyPost_ret (res_cct (t := 38) (t2 := 34) rfl rfl rfl rfl (by rw [HW8.out.1, far_setCells (by omega)]; exact HW7.out.2) HW8.out.2 Try.underlying38 rfl (by kernel_rfl) Try.underlying34 rfl (by kernel_rfl)) rfl ⟨rfl, by rw [HW8.out.1]; refine below_setCells (by omega) _ _ _ ?_; rw [HW7.out.1]; exact below_setCells (Nat.le_refl _) _ _ _ HBQ.out⟩
  · have e1 : (s.head == s.ready) = false := by simp [h1]
    have HF : Aside0 (firstF s = .tuple #[.agg (aStamp (s.ring (pl s s.head)).tk (s.ring (pl s s.head)).st), .agg (aTick s.head s.epoch), .bool true]) := ⟨by unfold firstF; rw [if_neg h1]⟩
    clear h1
    go_quiet (first | (go_at_call 34; refine (HI.out _).mono ?_; rintro e1 w2 ⟨rfl, ⟨nd, rfl⟩⟩; (try first | exact ⟨rfl, _, World.drewN_drewN _ _ _⟩ | exact ⟨rfl, _, Eq.trans (World.drewN_drewN _ _ _) (congrArg (World.drewN _) (Nat.add_assoc _ _ _))⟩)))
    have hr0 : (w1.drewN nq).heap[w.heap.size]? = some (.cells (aStamp 0 0) 38 (0, 0)) := (HB0.out.obj (w.heap.size, _) (List.mem_cons_of_mem _ List.mem_cons_self)).1
    have hr1 : (w1.drewN nq).heap[w.heap.size + 1]? = some (.cells (aTick 0 0) 34 (0, 0)) := (HB0.out.obj (w.heap.size + 1, _) List.mem_cons_self).1
    have HBQ : Aside0 (Below w.heap.size w (w1.drewN nq)) := ⟨pw_below_drewN HW0.out nq⟩
    have HB1 : Aside0 (Bd b s.mb w s [(w.heap.size + 1, .cells (aTick 0 0) 34), (w.heap.size, .cells (aStamp 0 0) 38)] (w1.drewN nq)) := ⟨HB0.out.below (pw_below_drewN (Below.refl _ _) nq)⟩
    replace c6 : (w1.drewN nq).cell? ⟨b, 325, none⟩ = some (.int .u64 s.head) := c6
    replace c9 : (w1.drewN nq).cell? ⟨b, 328, none⟩ = some (.int .u64 s.epoch) := c9
    clear HI HB0 HW0 c7
    generalize w1.drewN nq = w3 at HBQ hr0 hr1 c6 c9 HB1 ⊢
    have hi := pl_lt HP.out s.head
    obtain ⟨x0, x1, x2, x3, x4⟩ := HB1.out.ecells hi
    clear x0 x1 x2
    have HBL : Aside0 (b < w.heap.size) := ⟨HB1.out.hb⟩
    have HBM : Aside0 (s.mb < w.heap.size) := ⟨HB1.out.hm⟩
    have HD0 := Aside0.mk hr0
    have HD1 := Aside0.mk hr1
    clear hr0 hr1
    have HA : Aside0 (∀ w, Ln w b s → Calls Try.prog 35 #[.pointer (some ⟨b, 0, none⟩), .int .u64 s.head] w fun e w' => e = .returned (.pointer (some ⟨b, 4 + pl s s.head * 5, none⟩)) ∧ ∃ nd, w' = w.drewN nd) := ⟨fun w hw => at_callsD b s s.head HH.out HP.out _ hw⟩
    generalize pl s s.head = i at hi HA x3 x4 HF ⊢
    go_upto_region 3 with fail
    refine wp_region_held_drew (S := fun w' => Below w.heap.size w3 w') (by kernel_rfl) (pw_below_drewN (Below.refl _ _) 1) (fun hHeld => ?_)
    refine take_at (i := 0) (v := _) 21 rfl rfl (by kernel_rfl) (by kernel_rfl) (by kernel_rfl) (fun _ _ _ h => h) (Or.inl ⟨by rfl, fun w' hW => by have hq0 := (hW.cell HBL.out).trans c6; have hq1 := (hW.cell HBL.out).trans c9; have hq2 := (hW.cell HBL.out).trans x3; have hq3 := (hW.cell HBL.out).trans x4; first | (go_simp; done) | (go_simp; with_reducible rfl) | (go_simp; rfl)⟩) hHeld ?_
    try simp only [Act.put, List.setIfInBounds_toArray, List.set_cons_zero, List.set_cons_succ]
    refine take_at (i := 1) (v := _) 22 rfl rfl (by kernel_rfl) (by kernel_rfl) (by kernel_rfl) (fun _ _ _ h => h) (Or.inl ⟨by rfl, fun w' hW => by have hq0 := (hW.cell HBL.out).trans c6; have hq1 := (hW.cell HBL.out).trans c9; have hq2 := (hW.cell HBL.out).trans x3; have hq3 := (hW.cell HBL.out).trans x4; first | (go_simp; done) | (go_simp; with_reducible rfl) | (go_simp; rfl)⟩) hHeld ?_
    try simp only [Act.put, List.setIfInBounds_toArray, List.set_cons_zero, List.set_cons_succ]
    refine take_at (i := 2) (v := _) 23 rfl rfl (by kernel_rfl) (by kernel_rfl) (by kernel_rfl) (fun _ _ _ h => h) (Or.inl ⟨by rfl, fun w' hW => by have hq0 := (hW.cell HBL.out).trans c6; have hq1 := (hW.cell HBL.out).trans c9; have hq2 := (hW.cell HBL.out).trans x3; have hq3 := (hW.cell HBL.out).trans x4; first | (go_simp; done) | (go_simp; with_reducible rfl) | (go_simp; rfl)⟩) hHeld ?_
    try simp only [Act.put, List.setIfInBounds_toArray, List.set_cons_zero, List.set_cons_succ]
    refine take_at (i := 3) (v := _) 24 rfl rfl (by kernel_rfl) (by kernel_rfl) (by kernel_rfl) (fun _ _ _ h => h) (Or.inl ⟨by rfl, fun w' hW => by have hq0 := (hW.cell HBL.out).trans c6; have hq1 := (hW.cell HBL.out).trans c9; have hq2 := (hW.cell HBL.out).trans x3; have hq3 := (hW.cell HBL.out).trans x4; first | (go_simp; done) | (go_simp; with_reducible rfl) | (go_simp; rfl)⟩) hHeld ?_
    try simp only [Act.put, List.setIfInBounds_toArray, List.set_cons_zero, List.set_cons_succ]
    refine take_at (i := 4) (v := _) 25 rfl rfl (by kernel_rfl) (by kernel_rfl) (by kernel_rfl) (fun _ _ _ h => h) (Or.inl ⟨by rfl, fun w' hW => by have hq0 := (hW.cell HBL.out).trans c6; have hq1 := (hW.cell HBL.out).trans c9; have hq2 := (hW.cell HBL.out).trans x3; have hq3 := (hW.cell HBL.out).trans x4; first | (go_simp; done) | (go_simp; with_reducible rfl) | (go_simp; rfl)⟩) hHeld ?_
    try simp only [Act.put, List.setIfInBounds_toArray, List.set_cons_zero, List.set_cons_succ]
    refine take_at (i := 9) (v := _) 30 rfl rfl (by kernel_rfl) (by kernel_rfl) (by kernel_rfl) (fun _ _ _ h => h) (Or.inl ⟨by rfl, fun w' hW => by have hq0 := (hW.cell HBL.out).trans c6; have hq1 := (hW.cell HBL.out).trans c9; have hq2 := (hW.cell HBL.out).trans x3; have hq3 := (hW.cell HBL.out).trans x4; first | (go_simp; done) | (go_simp; with_reducible rfl) | (go_simp; rfl)⟩) hHeld ?_
    try simp only [Act.put, List.setIfInBounds_toArray, List.set_cons_zero, List.set_cons_succ]
    refine take_at (i := 10) (v := _) 31 rfl rfl (by kernel_rfl) (by kernel_rfl) (by kernel_rfl) (fun _ _ _ h => h) (Or.inl ⟨by rfl, fun w' hW => by have hq0 := (hW.cell HBL.out).trans c6; have hq1 := (hW.cell HBL.out).trans c9; have hq2 := (hW.cell HBL.out).trans x3; have hq3 := (hW.cell HBL.out).trans x4; first | (go_simp; done) | (go_simp; with_reducible rfl) | (go_simp; rfl)⟩) hHeld ?_
    try simp only [Act.put, List.setIfInBounds_toArray, List.set_cons_zero, List.set_cons_succ]
    refine take_at (i := 11) (v := _) 32 rfl rfl (by kernel_rfl) (by kernel_rfl) (by kernel_rfl) (fun _ _ _ h => h) (Or.inl ⟨by rfl, fun w' hW => by have hq0 := (hW.cell HBL.out).trans c6; have hq1 := (hW.cell HBL.out).trans c9; have hq2 := (hW.cell HBL.out).trans x3; have hq3 := (hW.cell HBL.out).trans x4; first | (go_simp; done) | (go_simp; with_reducible rfl) | (go_simp; rfl)⟩) hHeld ?_
    try simp only [Act.put, List.setIfInBounds_toArray, List.set_cons_zero, List.set_cons_succ]
    refine take_at (i := 12) (v := _) 33 rfl rfl (by kernel_rfl) (by kernel_rfl) (by kernel_rfl) (fun _ _ _ h => h) (Or.inl ⟨by rfl, fun w' hW => by have hq0 := (hW.cell HBL.out).trans c6; have hq1 := (hW.cell HBL.out).trans c9; have hq2 := (hW.cell HBL.out).trans x3; have hq3 := (hW.cell HBL.out).trans x4; first | (go_simp; done) | (go_simp; with_reducible rfl) | (go_simp; rfl)⟩) hHeld ?_
    try simp only [Act.put, List.setIfInBounds_toArray, List.set_cons_zero, List.set_cons_succ]
    refine take_at (i := 13) (v := _) 34 rfl rfl (by kernel_rfl) (by kernel_rfl) (by kernel_rfl) (fun _ _ _ h => h) (Or.inl ⟨by rfl, fun w' hW => by have hq0 := (hW.cell HBL.out).trans c6; have hq1 := (hW.cell HBL.out).trans c9; have hq2 := (hW.cell HBL.out).trans x3; have hq3 := (hW.cell HBL.out).trans x4; first | (go_simp; done) | (go_simp; with_reducible rfl) | (go_simp; rfl)⟩) hHeld ?_
    try simp only [Act.put, List.setIfInBounds_toArray, List.set_cons_zero, List.set_cons_succ]
    refine take_at (i := 14) (v := _) 35 rfl rfl (by kernel_rfl) (by kernel_rfl) (by kernel_rfl) (fun _ _ _ h => h) (Or.inl ⟨by rfl, fun w' hW => by have hq0 := (hW.cell HBL.out).trans c6; have hq1 := (hW.cell HBL.out).trans c9; have hq2 := (hW.cell HBL.out).trans x3; have hq3 := (hW.cell HBL.out).trans x4; first | (go_simp; done) | (go_simp; with_reducible rfl) | (go_simp; rfl)⟩) hHeld ?_
    try simp only [Act.put, List.setIfInBounds_toArray, List.set_cons_zero, List.set_cons_succ]
    refine take_at (i := 15) (v := _) 36 rfl rfl (by kernel_rfl) (by kernel_rfl) (by kernel_rfl) (fun _ _ _ h => h) (Or.inl ⟨by rfl, fun w' hW => by have hq0 := (hW.cell HBL.out).trans c6; have hq1 := (hW.cell HBL.out).trans c9; have hq2 := (hW.cell HBL.out).trans x3; have hq3 := (hW.cell HBL.out).trans x4; first | (go_simp; done) | (go_simp; with_reducible rfl) | (go_simp; rfl)⟩) hHeld ?_
    try simp only [Act.put, List.setIfInBounds_toArray, List.set_cons_zero, List.set_cons_succ]
    refine take_at (i := 16) (v := _) 37 rfl rfl (by kernel_rfl) (by kernel_rfl) (by kernel_rfl) (fun _ _ _ h => h) (Or.inl ⟨by rfl, fun w' hW => by have hq0 := (hW.cell HBL.out).trans c6; have hq1 := (hW.cell HBL.out).trans c9; have hq2 := (hW.cell HBL.out).trans x3; have hq3 := (hW.cell HBL.out).trans x4; first | (go_simp; done) | (go_simp; with_reducible rfl) | (go_simp; rfl)⟩) hHeld ?_
    try simp only [Act.put, List.setIfInBounds_toArray, List.set_cons_zero, List.set_cons_succ]
    refine take_at (i := 17) (v := _) 38 rfl rfl (by kernel_rfl) (by kernel_rfl) (by kernel_rfl) (fun _ _ _ h => h) (Or.inl ⟨by rfl, fun w' hW => by have hq0 := (hW.cell HBL.out).trans c6; have hq1 := (hW.cell HBL.out).trans c9; have hq2 := (hW.cell HBL.out).trans x3; have hq3 := (hW.cell HBL.out).trans x4; first | (go_simp; done) | (go_simp; with_reducible rfl) | (go_simp; rfl)⟩) hHeld ?_
    try simp only [Act.put, List.setIfInBounds_toArray, List.set_cons_zero, List.set_cons_succ]
    have N0 := Aside0.mk hHeld
    refine wpAnyH_ready (rs := [5]) (by kernel_rfl) (by simp) ?_
    refine AllReadyH.cons rfl (fun K hK => ?_) AllReadyH.nil
    go_simp
    go_wp2_with (first | (go_at_call 35; refine (HA.out _ (HB1.out.ln.of (N0.out.block _ HBL.out) (N0.out.block _ HBM.out))).mono ?_; rintro e1 w2 ⟨rfl, ⟨nd, rfl⟩⟩))
    clear hHeld
    refine hK.out _ _ (pw_below_drewN (Below.refl _ _) (1 + nd)) (fun hHeld => ?_)
    clear hK K
    try simp only [Act.put, List.setIfInBounds_toArray, List.set_cons_zero, List.set_cons_succ]
    refine take_at (i := 6) (v := _) 27 rfl rfl (by kernel_rfl) (by kernel_rfl) (by kernel_rfl) (fun _ _ _ h => h) (Or.inl ⟨by rfl, fun w' hW => by have hq0 := (hW.cell HBL.out).trans c6; have hq1 := (hW.cell HBL.out).trans c9; have hq2 := (hW.cell HBL.out).trans x3; have hq3 := (hW.cell HBL.out).trans x4; first | (go_simp; done) | (go_simp; with_reducible rfl) | (go_simp; rfl)⟩) hHeld ?_
    try simp only [Act.put, List.setIfInBounds_toArray, List.set_cons_zero, List.set_cons_succ]
    refine take_at (i := 7) (v := _) 28 rfl rfl (by kernel_rfl) (by kernel_rfl) (by kernel_rfl) (fun _ _ _ h => h) (Or.inl ⟨by rfl, fun w' hW => by have hq0 := (hW.cell HBL.out).trans c6; have hq1 := (hW.cell HBL.out).trans c9; have hq2 := (hW.cell HBL.out).trans x3; have hq3 := (hW.cell HBL.out).trans x4; first | (go_simp; done) | (go_simp; with_reducible rfl) | (go_simp; rfl)⟩) hHeld ?_
    try simp only [Act.put, List.setIfInBounds_toArray, List.set_cons_zero, List.set_cons_succ]
    refine take_at (i := 8) (v := _) 29 rfl rfl (by kernel_rfl) (by kernel_rfl) (by kernel_rfl) (fun _ _ _ h => h) (Or.inl ⟨by rfl, fun w' hW => by have hq0 := (hW.cell HBL.out).trans c6; have hq1 := (hW.cell HBL.out).trans c9; have hq2 := (hW.cell HBL.out).trans x3; have hq3 := (hW.cell HBL.out).trans x4; first | (go_simp; done) | (go_simp; with_reducible rfl) | (go_simp; rfl)⟩) hHeld ?_
    try simp only [Act.put, List.setIfInBounds_toArray, List.set_cons_zero, List.set_cons_succ]
    have hr0' : (w3.drewN (1 + nd)).heap[w.heap.size]? = some (.cells (aStamp 0 0) 38 (0, 0)) := HD0.out
    have hr1' : (w3.drewN (1 + nd)).heap[w.heap.size + 1]? = some (.cells (aTick 0 0) 34 (0, 0)) := HD1.out
    clear hHeld
    refine wpAnyH_ready (rs := [18]) (by kernel_rfl) (by simp) ?_
    refine AllReadyH.cons rfl (fun K hK => ?_) AllReadyH.nil
    rw [if_pos (by rfl)]
    refine store_at rfl 38 (.tmp 2) (.tmp 29) rfl w.heap.size 0 (aStamp (s.ring i).tk (s.ring i).st) rfl rfl (there_of_block hr0' 0 2 (by simp)) (by kernel_rfl) (by simp [Value.oneCell']) ?_
    have HS1 : Aside0 (Below w.heap.size w3 ((w3.drewN (1 + nd)).setCells w.heap.size 0 (aStamp (s.ring i).tk (s.ring i).st).toList) ∧ ((w3.drewN (1 + nd)).setCells w.heap.size 0 (aStamp (s.ring i).tk (s.ring i).st).toList).heap[w.heap.size]? = some (.cells (aStamp (s.ring i).tk (s.ring i).st) 38 (0, 0)) ∧ ((w3.drewN (1 + nd)).setCells w.heap.size 0 (aStamp (s.ring i).tk (s.ring i).st).toList).heap[w.heap.size + 1]? = some (.cells (aTick 0 0) 34 (0, 0))) := ⟨below_setCells (Nat.le_refl _) _ _ _ (pw_below_drewN (Below.refl _ _) (1 + nd)), blk_setCells _ 0 _ _ hr0', (far_setCells (by omega) _ _ _).trans hr1'⟩
    clear hr0' hr1'
    generalize (w3.drewN (1 + nd)).setCells w.heap.size 0 (aStamp (s.ring i).tk (s.ring i).st).toList = wz at HS1 ⊢
    refine hK.out _ _ HS1.out.1 (fun hHeld => ?_)
    clear hK K
    try simp only [Act.put, List.setIfInBounds_toArray, List.set_cons_zero, List.set_cons_succ]
    clear hHeld
    refine wpAnyH_ready (rs := [19]) (by kernel_rfl) (by simp) ?_
    refine AllReadyH.cons rfl (fun K hK => ?_) AllReadyH.nil
    rw [if_pos (by rfl)]
    refine store_at rfl 34 (.tmp 3) (.tmp 38) rfl (w.heap.size + 1) 0 (aTick s.head s.epoch) rfl rfl (there_of_block HS1.out.2.2 0 2 (by simp)) (by kernel_rfl) (by simp [Value.oneCell']) ?_
    have HS2 : Aside0 (Below w.heap.size w3 (wz.setCells (w.heap.size + 1) 0 (aTick s.head s.epoch).toList) ∧ (wz.setCells (w.heap.size + 1) 0 (aTick s.head s.epoch).toList).heap[w.heap.size]? = some (.cells (aStamp (s.ring i).tk (s.ring i).st) 38 (0, 0)) ∧ (wz.setCells (w.heap.size + 1) 0 (aTick s.head s.epoch).toList).heap[w.heap.size + 1]? = some (.cells (aTick s.head s.epoch) 34 (0, 0))) := ⟨below_setCells (Nat.le_succ _) _ _ _ HS1.out.1, (far_setCells (by omega) _ _ _).trans HS1.out.2.1, blk_setCells _ 0 _ _ HS1.out.2.2⟩
    clear HS1
    generalize wz.setCells (w.heap.size + 1) 0 (aTick s.head s.epoch).toList = wy at HS2 ⊢
    refine hK.out _ _ HS2.out.1 (fun hHeld => ?_)
    clear hK K
    try simp only [Act.put, List.setIfInBounds_toArray, List.set_cons_zero, List.set_cons_succ]
    refine take_at (i := 20) (v := _) 4 rfl rfl (by kernel_rfl) (by kernel_rfl) (by kernel_rfl) (fun _ _ _ h => h) (Or.inl ⟨by rfl, fun w' hW => by have hq0 := (hW.cell HBL.out).trans c6; have hq1 := (hW.cell HBL.out).trans c9; have hq2 := (hW.cell HBL.out).trans x3; have hq3 := (hW.cell HBL.out).trans x4; first | (go_simp; done) | (go_simp; with_reducible rfl) | (go_simp; rfl)⟩) hHeld ?_
    try simp only [Act.put, List.setIfInBounds_toArray, List.set_cons_zero, List.set_cons_succ]
    refine wpAnyH_done (by kernel_rfl) ?_ _
    clear hHeld
    go_wp2
    rw [HF.out]
    exact bodyPost_ret (res_cct (t := 38) (t2 := 34) rfl rfl rfl rfl HS2.out.2.1 HS2.out.2.2 Try.underlying38 rfl (by kernel_rfl) Try.underlying34 rfl (by kernel_rfl)) rfl ⟨rfl, (HBQ.out.trans HS2.out.1)⟩
end Go.Proofs.Ytglekbbdbnpohaa.QLn
