/- Lane: a lane that nobody made refuses all; a lane whose credit is spent. -/
import Derived.Test.YtglekbbdbnpohaaELn
namespace Go.Proofs.Ytglekbbdbnpohaa.QLn
open Go.RowKit Go.Proofs.YtglekbbdbnpohaaW.PrintWords Go.Proofs.YtglekbbdbnpohaaW.PrintLast Go.Proofs.YtglekbbdbnpohaaW.PrintMore
set_option linter.unusedVariables false
set_option linter.unusedSimpArgs false
def Nobody (w : World) (p : Option Addr) : Prop := p = none ∨ ∃ b, p = some ⟨b, 0, none⟩ ∧ w.cell? ⟨b, 0, none⟩ = some (.int .i64 0)
theorem Nobody.below {w w' : World} {p : Option Addr} (h : Nobody w p) (k : Below w.heap.size w w') : Nobody w' p := by
  rcases h with h | ⟨b, h, hc⟩
  · exact .inl h
  · exact .inr ⟨b, h, pw_cell_below k hc⟩
theorem is_no (p : Option Addr) (w : World) (h : Nobody w p) : Calls Try.prog 34 #[.pointer p] w fun e w' => e = .returned (.bool false) ∧ ∃ nd, w' = w.drewN nd := by
  rcases h with rfl | ⟨b, rfl, hc⟩
  · go_enter Try.func34, Try.ntmps34
    go_wp2
    go_ret
    exact ⟨rfl, 0, rfl⟩
  · have d : decide ((0 : Int) > 0) = false := by decide
    go_enter Try.func34, Try.ntmps34
    go_wp2
    go_ret
    exact ⟨rfl, 0, rfl⟩
theorem Claim_no (p : Option Addr) (w : World) (h : Nobody w p) : Calls Try.prog 15 #[.pointer p] w fun e w' => e = .returned (.tuple #[.agg (aTick 0 0), .int .i64 4]) ∧ Below w.heap.size w w' := by
  have HN : Aside0 (Nobody (w.alloc (.cells #[.int .u64 0, .int .u64 0] 34)) p) := ⟨h.below ((Below.refl _ _).alloc (Nat.le_refl _) _)⟩
  have HB : Aside0 (Below w.heap.size w (w.alloc (.cells #[.int .u64 0, .int .u64 0] 34))) := ⟨(Below.refl _ _).alloc (Nat.le_refl _) _⟩
  have hr := World.alloc_heap_new w (.cells #[.int .u64 0, .int .u64 0] 34)
  clear h
  go_enter Try.func15, Try.ntmps15
  go_upto_region 1 with fail
  generalize w.alloc (.cells #[.int .u64 0, .int .u64 0] 34) = w1 at HN HB hr ⊢
  go_wp2_with (first | (go_at_call 34; refine (is_no p _ HN.out).mono ?_; rintro e1 w2 ⟨rfl, ⟨nd, rfl⟩⟩) | ((with_reducible refine gate_store (t := 34) (p := 2) rfl ?_); refine store_blk rfl 34 (.tmp 2) (.tmp 9) rfl w.heap.size 0 (aTick 0 0) (aTick 0 0) 34 rfl rfl hr (by simp) (by kernel_rfl) (by kernel_rfl) ?_; intro w7 hw7 hr7; have HW7 := Aside0.mk (And.intro hw7 hr7); clear hw7 hr7))
  exact bodyPost_ret (res_ct (t := 34) rfl rfl rfl HW7.out.2 Try.underlying34 rfl (by kernel_rfl)) rfl ⟨rfl, by rw [HW7.out.1]; exact below_setCells (Nat.le_refl _) _ _ _ (pw_below_drewN HB.out nd)⟩
abbrev aSt (a b c d e f : Int) : Array Value := #[.int .i64 a, .int .i64 b, .int .i64 c, .int .i64 d, .int .i64 e, .int .u64 f]
theorem Lay_no (p : Option Addr) (q ep n g : Int) (w : World) (h : Nobody w p) : Calls Try.prog 16 #[.pointer p, .agg (aTick q ep), .agg (aSlot n g)] w fun e w' => e = .returned (.int .i64 4) ∧ Below w.heap.size w w' := by
  have HB : Aside0 (Below w.heap.size w ((w.alloc (.cells (aTick q ep) 34)).alloc (.cells (aSlot n g) 36))) := ⟨((Below.refl _ _).alloc (Nat.le_refl _) _).alloc (by simp) _⟩
  have HN : Aside0 (Nobody ((w.alloc (.cells (aTick q ep) 34)).alloc (.cells (aSlot n g) 36)) p) := ⟨h.below HB.out⟩
  have hr0 : ((w.alloc (.cells (aTick q ep) 34)).alloc (.cells (aSlot n g) 36)).heap[w.heap.size]? = some (.cells (aTick q ep) 34 (0, 0)) := (Below.heap_alloc _ _ _ (by simp)).trans (World.alloc_heap_new w _)
  have hr1 : ((w.alloc (.cells (aTick q ep) 34)).alloc (.cells (aSlot n g) 36)).heap[w.heap.size + 1]? = some (.cells (aSlot n g) 36 (0, 0)) := heap_alloc2_new w _ _
  clear h
  go_enter Try.func16, Try.ntmps16
  go_upto_region 1 with fail
  generalize ((w.alloc (.cells (aTick q ep) 34)).alloc (.cells (aSlot n g) 36)) = w1 at HN HB hr0 hr1 ⊢
  clear hr0 hr1
  go_wp2_with (go_at_call 34; refine (is_no p _ HN.out).mono ?_; rintro e1 w2 ⟨rfl, ⟨nd, rfl⟩⟩)
  go_ret
  exact ⟨rfl, pw_below_drewN HB.out nd⟩
theorem Ready_no (p : Option Addr) (q ep : Int) (w : World) (h : Nobody w p) : Calls Try.prog 21 #[.pointer p, .agg (aTick q ep)] w fun e w' => e = .returned (.bool false) ∧ Below w.heap.size w w' := by
  have HB : Aside0 (Below w.heap.size w (w.alloc (.cells (aTick q ep) 34))) := ⟨(Below.refl _ _).alloc (Nat.le_refl _) _⟩
  have HN : Aside0 (Nobody (w.alloc (.cells (aTick q ep) 34)) p) := ⟨h.below HB.out⟩
  have hr0 := World.alloc_heap_new w (.cells (aTick q ep) 34)
  clear h
  go_enter Try.func21, Try.ntmps21
  go_upto_region 1 with fail
  generalize (w.alloc (.cells (aTick q ep) 34)) = w1 at HN HB hr0 ⊢
  clear hr0
  go_wp2_with (go_at_call 34; refine (is_no p _ HN.out).mono ?_; rintro e1 w2 ⟨rfl, ⟨nd, rfl⟩⟩)
  go_ret
  exact ⟨rfl, pw_below_drewN HB.out nd⟩
theorem Publish_no (p : Option Addr) (q ep x y : Int) (w : World) (h : Nobody w p) : Calls Try.prog 20 #[.pointer p, .agg (aTick q ep), .agg (aStamp x y)] w fun e w' => e = .returned (.int .i64 4) ∧ Below w.heap.size w w' := by
  have HB : Aside0 (Below w.heap.size w ((w.alloc (.cells (aTick q ep) 34)).alloc (.cells (aStamp x y) 38))) := ⟨((Below.refl _ _).alloc (Nat.le_refl _) _).alloc (by simp) _⟩
  have HN : Aside0 (Nobody ((w.alloc (.cells (aTick q ep) 34)).alloc (.cells (aStamp x y) 38)) p) := ⟨h.below HB.out⟩
  have hr0 : ((w.alloc (.cells (aTick q ep) 34)).alloc (.cells (aStamp x y) 38)).heap[w.heap.size]? = some (.cells (aTick q ep) 34 (0, 0)) := (Below.heap_alloc _ _ _ (by simp)).trans (World.alloc_heap_new w _)
  have hr1 : ((w.alloc (.cells (aTick q ep) 34)).alloc (.cells (aStamp x y) 38)).heap[w.heap.size + 1]? = some (.cells (aStamp x y) 38 (0, 0)) := heap_alloc2_new w _ _
  clear h
  go_enter Try.func20, Try.ntmps20
  go_upto_region 1 with fail
  generalize ((w.alloc (.cells (aTick q ep) 34)).alloc (.cells (aStamp x y) 38)) = w1 at HN HB hr0 hr1 ⊢
  clear hr0 hr1
  go_wp2_with (go_at_call 34; refine (is_no p _ HN.out).mono ?_; rintro e1 w2 ⟨rfl, ⟨nd, rfl⟩⟩)
  go_ret
  exact ⟨rfl, pw_below_drewN HB.out nd⟩
theorem State_no (p : Option Addr) (w : World) (h : Nobody w p) : Calls Try.prog 13 #[.pointer p] w fun e w' => e = .returned (.agg (aSt 0 0 0 0 0 0)) ∧ Below w.heap.size w w' := by
  have HB : Aside0 (Below w.heap.size w (w.alloc (.cells (aSt 0 0 0 0 0 0) 42))) := ⟨(Below.refl _ _).alloc (Nat.le_refl _) _⟩
  have HN : Aside0 (Nobody (w.alloc (.cells (aSt 0 0 0 0 0 0) 42)) p) := ⟨h.below HB.out⟩
  have hr0 := World.alloc_heap_new w (.cells (aSt 0 0 0 0 0 0) 42)
  clear h
  go_enter Try.func13, Try.ntmps13
  go_upto_region 1 with fail
  generalize (w.alloc (.cells (aSt 0 0 0 0 0 0) 42)) = w1 at HN HB hr0 ⊢
  go_wp2_with (first | (go_at_call 34; refine (is_no p _ HN.out).mono ?_; rintro e1 w2 ⟨rfl, ⟨nd, rfl⟩⟩) | ((with_reducible refine gate_store (t := 42) (p := 2) rfl ?_); refine store_blk rfl 42 (.tmp 2) (.tmp 9) rfl w.heap.size 0 (aSt 0 0 0 0 0 0) (aSt 0 0 0 0 0 0) 42 rfl rfl hr0 (by simp) (by kernel_rfl) (by kernel_rfl) ?_; intro w7 hw7 hr7; have HW7 := Aside0.mk (And.intro hw7 hr7); clear hw7 hr7))
  exact bodyPost_ret (results_cell_row (P := Try.prog) rfl _ _ w.heap.size 42 (aSt 0 0 0 0 0 0) (0, 0) _ rfl HW7.out.2 Try.underlying42 rfl (by kernel_rfl)) rfl ⟨rfl, by rw [HW7.out.1]; exact below_setCells (Nat.le_refl _) _ _ _ (pw_below_drewN HB.out nd)⟩
theorem Reset_no (p : Option Addr) (w : World) (h : Nobody w p) : Calls Try.prog 18 #[.pointer p] w fun e w' => e = .returned (.tuple #[.slice none 0 0, .int .i64 4]) ∧ Below w.heap.size w w' := by
  have HB : Aside0 (Below w.heap.size w (w.alloc (.cells #[.pointer p] 25))) := ⟨(Below.refl _ _).alloc (Nat.le_refl _) _⟩
  have HN : Aside0 (Nobody (w.alloc (.cells #[.pointer p] 25)) p) := ⟨h.below HB.out⟩
  have hr0 : (w.alloc (.cells #[.pointer p] 25)).cell? ⟨w.heap.size, 0, none⟩ = some (.pointer p) := cell_new _ _ _ _
  clear h
  go_enter Try.func18, Try.ntmps18
  go_upto_region 1 with fail
  generalize w.alloc (.cells #[.pointer p] 25) = w1 at HN HB hr0 ⊢
  go_wp2_with (go_at_call 34; refine (is_no p _ HN.out).mono ?_; rintro e1 w2 ⟨rfl, ⟨nd, rfl⟩⟩)
  go_ret2
  exact ⟨rfl, pw_below_drewN HB.out nd⟩
theorem Retire_no (p : Option Addr) (q ep : Int) (w : World) (h : Nobody w p) : Calls Try.prog 19 #[.pointer p, .agg (aTick q ep)] w fun e w' => e = .returned (.tuple #[.agg (aSlot 0 0), .bool false, .int .i64 4]) ∧ Below w.heap.size w w' := by
  have HB : Aside0 (Below w.heap.size w ((w.alloc (.cells (aTick q ep) 34)).alloc (.cells (aSlot 0 0) 36))) := ⟨((Below.refl _ _).alloc (Nat.le_refl _) _).alloc (by simp) _⟩
  have HN : Aside0 (Nobody ((w.alloc (.cells (aTick q ep) 34)).alloc (.cells (aSlot 0 0) 36)) p) := ⟨h.below HB.out⟩
  have hr0 : ((w.alloc (.cells (aTick q ep) 34)).alloc (.cells (aSlot 0 0) 36)).heap[w.heap.size]? = some (.cells (aTick q ep) 34 (0, 0)) := (Below.heap_alloc _ _ _ (by simp)).trans (World.alloc_heap_new w _)
  have hr1 : ((w.alloc (.cells (aTick q ep) 34)).alloc (.cells (aSlot 0 0) 36)).heap[w.heap.size + 1]? = some (.cells (aSlot 0 0) 36 (0, 0)) := heap_alloc2_new w _ _
  clear h
  go_enter Try.func19, Try.ntmps19
  go_upto_region 1 with fail
  generalize ((w.alloc (.cells (aTick q ep) 34)).alloc (.cells (aSlot 0 0) 36)) = w1 at HN HB hr0 hr1 ⊢
  clear hr0
  go_wp2_with (first | (go_at_call 34; refine (is_no p _ HN.out).mono ?_; rintro e1 w2 ⟨rfl, ⟨nd, rfl⟩⟩) | ((with_reducible refine gate_store (t := 36) (p := 4) rfl ?_); refine store_blk rfl 36 (.tmp 4) (.tmp 13) rfl (w.heap.size + 1) 0 (aSlot 0 0) (aSlot 0 0) 36 rfl rfl hr1 (by simp) (by kernel_rfl) (by kernel_rfl) ?_; intro w7 hw7 hr7; have HW7 := Aside0.mk (And.intro hw7 hr7); clear hw7 hr7))
  exact bodyPost_ret (res_ctt (t := 36) rfl rfl rfl rfl HW7.out.2 Try.underlying36 rfl (by kernel_rfl)) rfl ⟨rfl, by rw [HW7.out.1]; exact below_setCells (by omega) _ _ _ (pw_below_drewN HB.out nd)⟩
theorem Take_no (p : Option Addr) (w : World) (h : Nobody w p) : Calls Try.prog 17 #[.pointer p] w fun e w' => e = .returned (.tuple #[.agg (aSlot 0 0), .agg (aTick 0 0), .int .i64 4]) ∧ Below w.heap.size w w' := by
  have HB : Aside0 (Below w.heap.size w ((w.alloc (.cells (aSlot 0 0) 36)).alloc (.cells (aTick 0 0) 34))) := ⟨((Below.refl _ _).alloc (Nat.le_refl _) _).alloc (by simp) _⟩
  have HN : Aside0 (Nobody ((w.alloc (.cells (aSlot 0 0) 36)).alloc (.cells (aTick 0 0) 34)) p) := ⟨h.below HB.out⟩
  have hr0 : ((w.alloc (.cells (aSlot 0 0) 36)).alloc (.cells (aTick 0 0) 34)).heap[w.heap.size]? = some (.cells (aSlot 0 0) 36 (0, 0)) := (Below.heap_alloc _ _ _ (by simp)).trans (World.alloc_heap_new w _)
  have hr1 : ((w.alloc (.cells (aSlot 0 0) 36)).alloc (.cells (aTick 0 0) 34)).heap[w.heap.size + 1]? = some (.cells (aTick 0 0) 34 (0, 0)) := heap_alloc2_new w _ _
  clear h
  go_enter Try.func17, Try.ntmps17
  go_upto_region 1 with fail
  generalize ((w.alloc (.cells (aSlot 0 0) 36)).alloc (.cells (aTick 0 0) 34)) = w1 at HN HB hr0 hr1 ⊢
  go_wp2_with (first | (go_at_call 34; refine (is_no p _ HN.out).mono ?_; rintro e1 w2 ⟨rfl, ⟨nd, rfl⟩⟩) | ((with_reducible refine gate_store (t := 36) (p := 2) rfl ?_); refine store_blk rfl 36 (.tmp 2) (.tmp 12) rfl w.heap.size 0 (aSlot 0 0) (aSlot 0 0) 36 rfl rfl hr0 (by simp) (by kernel_rfl) (by kernel_rfl) ?_; intro w7 hw7 hr7; have HW7 := Aside0.mk (And.intro hw7 hr7); have hr2 : w7.heap[w.heap.size + 1]? = some (.cells (aTick 0 0) 34 (0, 0)) := (by rw [hw7, far_setCells (by omega)]; exact hr1); clear hw7 hr7) | ((with_reducible refine gate_store (t := 34) (p := 3) rfl ?_); refine store_blk rfl 34 (.tmp 3) (.tmp 13) rfl (w.heap.size + 1) 0 (aTick 0 0) (aTick 0 0) 34 rfl rfl hr2 (by simp) (by kernel_rfl) (by kernel_rfl) ?_; intro w8 hw8 hr8; have HW8 := Aside0.mk (And.intro hw8 hr8); clear hw8 hr8))
  exact bodyPost_ret (res_cct (t := 36) (t2 := 34) rfl rfl rfl rfl (by rw [HW8.out.1, far_setCells (by omega)]; exact HW7.out.2) HW8.out.2 Try.underlying36 rfl (by kernel_rfl) Try.underlying34 rfl (by kernel_rfl)) rfl ⟨rfl, by rw [HW8.out.1]; refine below_setCells (by omega) _ _ _ ?_; rw [HW7.out.1]; exact below_setCells (Nat.le_refl _) _ _ _ (pw_below_drewN HB.out nd)⟩
theorem First_no (p : Option Addr) (w : World) (h : Nobody w p) : Calls Try.prog 23 #[.pointer p] w fun e w' => e = .returned (.tuple #[.agg (aStamp 0 0), .agg (aTick 0 0), .bool false]) ∧ Below w.heap.size w w' := by
  have HB : Aside0 (Below w.heap.size w ((w.alloc (.cells (aStamp 0 0) 38)).alloc (.cells (aTick 0 0) 34))) := ⟨((Below.refl _ _).alloc (Nat.le_refl _) _).alloc (by simp) _⟩
  have HN : Aside0 (Nobody ((w.alloc (.cells (aStamp 0 0) 38)).alloc (.cells (aTick 0 0) 34)) p) := ⟨h.below HB.out⟩
  have hr0 : ((w.alloc (.cells (aStamp 0 0) 38)).alloc (.cells (aTick 0 0) 34)).heap[w.heap.size]? = some (.cells (aStamp 0 0) 38 (0, 0)) := (Below.heap_alloc _ _ _ (by simp)).trans (World.alloc_heap_new w _)
  have hr1 : ((w.alloc (.cells (aStamp 0 0) 38)).alloc (.cells (aTick 0 0) 34)).heap[w.heap.size + 1]? = some (.cells (aTick 0 0) 34 (0, 0)) := heap_alloc2_new w _ _
  clear h
  go_enter Try.func23, Try.ntmps23
  go_upto_region 1 with fail
  generalize ((w.alloc (.cells (aStamp 0 0) 38)).alloc (.cells (aTick 0 0) 34)) = w1 at HN HB hr0 hr1 ⊢
  have HI : Aside0 (∀ k : Nat, Calls Try.prog 34 #[.pointer p] (w1.drewN k) fun e w' => e = .returned (.bool false) ∧ ∃ nd, w' = (w1.drewN k).drewN nd) := ⟨fun k => is_no p _ (HN.out.below (pw_below_drewN (Below.refl _ _) k))⟩
  go_quiet (first | (go_at_call 34; refine (HI.out _).mono ?_; rintro e1 w2 ⟨rfl, ⟨nd, rfl⟩⟩; (try first | exact ⟨rfl, _, World.drewN_drewN _ _ _⟩ | exact ⟨rfl, _, Eq.trans (World.drewN_drewN _ _ _) (congrArg (World.drewN _) (Nat.add_assoc _ _ _))⟩)))
  have HBQ : Aside0 (Below w.heap.size w (w1.drewN nq)) := ⟨pw_below_drewN HB.out nq⟩
  replace hr0 : (w1.drewN nq).heap[w.heap.size]? = some (.cells (aStamp 0 0) 38 (0, 0)) := hr0
  replace hr1 : (w1.drewN nq).heap[w.heap.size + 1]? = some (.cells (aTick 0 0) 34 (0, 0)) := hr1
  clear HI HN HB
  generalize w1.drewN nq = w3 at HBQ hr0 hr1 ⊢
  go_wp2_with (first | ((with_reducible refine gate_store (t := 38) (p := 2) rfl ?_); refine store_blk rfl 38 (.tmp 2) (.tmp 19) rfl w.heap.size 0 (aStamp 0 0) (aStamp 0 0) 38 rfl rfl hr0 (by simp) (by kernel_rfl) (by kernel_rfl) ?_; intro w7 hw7 hr7; have HW7 := Aside0.mk (And.intro hw7 hr7); have hr2 : w7.heap[w.heap.size + 1]? = some (.cells (aTick 0 0) 34 (0, 0)) := (by rw [hw7, far_setCells (by omega)]; exact hr1); clear hw7 hr7) | ((with_reducible refine gate_store (t := 34) (p := 3) rfl ?_); refine store_blk rfl 34 (.tmp 3) (.tmp 20) rfl (w.heap.size + 1) 0 (aTick 0 0) (aTick 0 0) 34 rfl rfl hr2 (by simp) (by kernel_rfl) (by kernel_rfl) ?_; intro w8 hw8 hr8; have HW8 := Aside0.mk (And.intro hw8 hr8); clear hw8 hr8))
  exact bodyPost_ret (res_cct (t := 38) (t2 := 34) rfl rfl rfl rfl (by rw [HW8.out.1, far_setCells (by omega)]; exact HW7.out.2) HW8.out.2 Try.underlying38 rfl (by kernel_rfl) Try.underlying34 rfl (by kernel_rfl)) rfl ⟨rfl, by rw [HW8.out.1]; refine below_setCells (by omega) _ _ _ ?_; rw [HW7.out.1]; exact below_setCells (Nat.le_refl _) _ _ _ HBQ.out⟩
end Go.Proofs.Ytglekbbdbnpohaa.QLn
