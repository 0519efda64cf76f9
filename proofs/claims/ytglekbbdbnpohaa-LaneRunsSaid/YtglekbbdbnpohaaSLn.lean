/- Lane: what a law knows of its world; awake. Written by a program of this repo (tools/gen_lawake.py). -/
import Derived.Test.YtglekbbdbnpohaaZ2Ln
namespace Go.Proofs.Ytglekbbdbnpohaa.QLn
open Go.RowKit Go.Proofs.YtglekbbdbnpohaaW.PrintWords Go.Proofs.YtglekbbdbnpohaaW.PrintLast Go.Proofs.YtglekbbdbnpohaaW.PrintMore
set_option linter.unusedVariables false
set_option linter.unusedSimpArgs false
/-- What a law knows: the lane at b, its own boxes, and that nothing older has turned. -/
structure Aw (w0 : World) (b mb : Nat) (a : AS) (k : Nat) (L : List (Nat × Obj)) (w : World) : Prop where
  ln : LnA w b mb a k
  be : Below w0.heap.size w0 w
  hb : w0.heap.size ≤ b
  hm : w0.heap.size ≤ mb
  obj : ∀ p ∈ L, w.heap[p.1]? = some p.2 ∧ p.1 ≠ b ∧ p.1 ≠ mb ∧ w0.heap.size ≤ p.1
theorem Aw.below {w0 w w' : World} {b mb : Nat} {a : AS} {k : Nat} {L : List (Nat × Obj)} (h : Aw w0 b mb a k L w) (j : Below w.heap.size w w') : Aw w0 b mb a k L w' :=
  ⟨h.ln.below j, h.be.trans (j.mono h.be.size), h.hb, h.hm, fun p hp => ⟨obj_below j (h.obj p hp).1, (h.obj p hp).2⟩⟩
theorem Aw.alloc {w0 w : World} {b mb : Nat} {a : AS} {k : Nat} {L : List (Nat × Obj)} (h : Aw w0 b mb a k L w) (o : Obj) : Aw w0 b mb a k ((w.heap.size, o) :: L) (w.alloc o) := by
  have j := h.below ((Below.refl _ w).alloc (Nat.le_refl _) o)
  have hl := h.ln.lt
  refine ⟨j.ln, j.be, j.hb, j.hm, fun p hp => ?_⟩
  rcases List.mem_cons.1 hp with rfl | hp
  · exact ⟨World.alloc_heap_new _ _, by simp only; omega, by simp only; omega, h.be.size⟩
  · exact j.obj p hp
theorem Aw.call {w0 w w' : World} {b mb : Nat} {a a' : AS} {k k' : Nat} {L : List (Nat × Obj)} (h : Aw w0 b mb a k L w) (hl : LnA w' b mb a' k') (j : Far b mb w w') : Aw w0 b mb a' k' L w' :=
  ⟨hl, Far.up h.be h.be.size h.hb h.hm j, h.hb, h.hm, fun p hp => ⟨(j.block p.1 (Array.getElem?_eq_some_iff.1 (h.obj p hp).1).1 (h.obj p hp).2.1 (h.obj p hp).2.2.1).trans (h.obj p hp).1, (h.obj p hp).2⟩⟩
theorem Aw.box {w0 w : World} {b mb : Nat} {a : AS} {k : Nat} {L L' : List (Nat × Obj)} (h : Aw w0 b mb a k L w) (g : Nat) (C : Array Value) (t : TypeId) (hg : (g, Obj.cells C t) ∈ L) (o : Nat) (vs : List Value)
    (hL : ∀ p ∈ L', p = (g, Obj.cells (QLn.setAll C o vs) t) ∨ (p ∈ L ∧ p.1 ≠ g)) : Aw w0 b mb a k L' (w.setCells g o vs) := by
  obtain ⟨h1, h2, h3, h4⟩ := h.obj _ hg
  refine ⟨?_, below_setCells h4 vs o w h.be, h.hb, h.hm, fun p hp => ?_⟩
  · obtain ⟨s, hs, hm, hr⟩ := h.ln
    exact ⟨s, hs.of (far_setCells (Ne.symm h2) vs o w) (far_setCells (by rw [hm]; exact Ne.symm h3) vs o w), hm, hr⟩
  · rcases hL p hp with rfl | ⟨hp, hne⟩
    · exact ⟨blk_setCells vs o C w h1, h2, h3, h4⟩
    · exact ⟨(far_setCells hne vs o w).trans (h.obj p hp).1, (h.obj p hp).2⟩
theorem Aw.ptr {w0 w : World} {b mb : Nat} {a : AS} {k : Nat} {L : List (Nat × Obj)} (h : Aw w0 b mb a k L w) {g : Nat} {C : Array Value} {t : TypeId} (hg : (g, Obj.cells C t) ∈ L) (j : Nat) : w.cell? ⟨g, j, none⟩ = C[j]? ∧ w.frozen? ⟨g, j, none⟩ = false := by
  have h1 := (h.obj _ hg).1
  constructor
  · simp only [World.cell?, h1]; rfl
  · simp [World.frozen?, h1]
theorem Aw.blk {w0 w : World} {b mb : Nat} {a : AS} {k : Nat} {L : List (Nat × Obj)} (h : Aw w0 b mb a k L w) {g : Nat} {C : Array Value} {t : TypeId} (hg : (g, Obj.cells C t) ∈ L) : w.heap[g]? = some (.cells C t (0, 0)) := (h.obj _ hg).1
theorem tick_blk {w : World} {g : Nat} {x y : Int} (h : w.heap[g]? = some (.cells (aTick x y) 34 (0, 0))) : w.cell? ⟨g, 0, none⟩ = some (.int .u64 x) ∧ w.cell? ⟨g, 1, none⟩ = some (.int .u64 y) := by
  constructor <;> (simp only [World.cell?, h]; rfl)
/-! ### awake: the states -/
abbrev TOP : Int := 18446744073709551615
def q0 : AS := newA 2 true TOP
def q1 : AS := claimA q0
def q2 : AS := claimA q1
def q3 : AS := layA q2 0 7 0
def q4 : AS := layA q3 1 8 0
def q5 : AS := pubA q4 ⟨true, 7, 0⟩ [⟨true, 8, 0⟩] 2 0
def q6 : AS := takeA q5 ⟨3, 7, 0, 2, 0⟩ []
def q7 : AS := ret2A q6 0
theorem r1 : claimR q0 = (q1, .tuple #[.agg (aTick TOP 0), .int .i64 0]) := by kernel_rfl
theorem r2 : claimR q1 = (q2, .tuple #[.agg (aTick 0 0), .int .i64 0]) := by kernel_rfl
theorem r3 : claimR q2 = (q2, .tuple #[.agg (aTick 0 0), .int .i64 81]) := by kernel_rfl
theorem r4 : layR q2 TOP 0 7 0 = (q3, 0) := by kernel_rfl
theorem r5 : layR q3 0 0 8 0 = (q4, 0) := by kernel_rfl
theorem r6 : pubR q4 0 0 1 0 = (q4, 83) := by kernel_rfl
theorem r7 : pubR q4 TOP 0 2 0 = (q5, 0) := by kernel_rfl
theorem r8 : takeR q5 = (q6, .tuple #[.agg (aSlot 7 0), .agg (aTick TOP 0), .int .i64 0]) := by kernel_rfl
theorem r9 : retR q6 TOP 0 = (q7, .tuple #[.agg (aSlot 7 0), .bool true, .int .i64 0]) := by kernel_rfl
theorem r10 : stateR q7 = aSt 1 1 0 0 0 0 := by kernel_rfl
theorem r11 : readyR q7 0 0 = true := by kernel_rfl
theorem u0 : U64 0 := by unfold U64; omega
theorem uT : U64 TOP := by constructor <;> decide
theorem s1 {b mb : Nat} {w : World} (h : LnA w b mb q0 0) : Calls Try.prog 15 #[.pointer (some ⟨b, 0, none⟩)] w fun e w' => e = .returned (.tuple #[.agg (aTick TOP 0), .int .i64 0]) ∧ LnA w' b mb q1 1 ∧ Far b mb w w' := by
  have := A_claim h; rwa [r1] at this
theorem s2 {b mb : Nat} {w : World} (h : LnA w b mb q1 1) : Calls Try.prog 15 #[.pointer (some ⟨b, 0, none⟩)] w fun e w' => e = .returned (.tuple #[.agg (aTick 0 0), .int .i64 0]) ∧ LnA w' b mb q2 2 ∧ Far b mb w w' := by
  have := A_claim h; rwa [r2] at this
theorem s3 {b mb : Nat} {w : World} (h : LnA w b mb q2 2) : Calls Try.prog 15 #[.pointer (some ⟨b, 0, none⟩)] w fun e w' => e = .returned (.tuple #[.agg (aTick 0 0), .int .i64 81]) ∧ LnA w' b mb q2 3 ∧ Far b mb w w' := by
  have := A_claim h; rwa [r3] at this
theorem s4 {b mb : Nat} {w : World} (h : LnA w b mb q2 3) : Calls Try.prog 16 #[.pointer (some ⟨b, 0, none⟩), .agg (aTick TOP 0), .agg (aSlot 7 0)] w fun e w' => e = .returned (.int .i64 0) ∧ LnA w' b mb q3 4 ∧ Far b mb w w' := by
  have := A_lay h (by omega) TOP 0 7 0 uT; rwa [r4] at this
theorem s5 {b mb : Nat} {w : World} (h : LnA w b mb q3 4) : Calls Try.prog 16 #[.pointer (some ⟨b, 0, none⟩), .agg (aTick 0 0), .agg (aSlot 8 0)] w fun e w' => e = .returned (.int .i64 0) ∧ LnA w' b mb q4 5 ∧ Far b mb w w' := by
  have := A_lay h (by omega) 0 0 8 0 u0; rwa [r5] at this
theorem s6 {b mb : Nat} {w : World} (h : LnA w b mb q4 5) : Calls Try.prog 20 #[.pointer (some ⟨b, 0, none⟩), .agg (aTick 0 0), .agg (aStamp 1 0)] w fun e w' => e = .returned (.int .i64 83) ∧ LnA w' b mb q4 6 ∧ Far b mb w w' := by
  have := A_pub h (by omega) 0 0 1 0 u0; rwa [r6] at this
theorem s7 {b mb : Nat} {w : World} (h : LnA w b mb q4 6) : Calls Try.prog 20 #[.pointer (some ⟨b, 0, none⟩), .agg (aTick TOP 0), .agg (aStamp 2 0)] w fun e w' => e = .returned (.int .i64 0) ∧ LnA w' b mb q5 7 ∧ Far b mb w w' := by
  have := A_pub h (by omega) TOP 0 2 0 uT; rwa [r7] at this
theorem s8 {b mb : Nat} {w : World} (h : LnA w b mb q5 7) : Calls Try.prog 17 #[.pointer (some ⟨b, 0, none⟩)] w fun e w' => e = .returned (.tuple #[.agg (aSlot 7 0), .agg (aTick TOP 0), .int .i64 0]) ∧ LnA w' b mb q6 8 ∧ Far b mb w w' := by
  have := A_take h (by omega); rwa [r8] at this
theorem s9 {b mb : Nat} {w : World} (h : LnA w b mb q6 8) : Calls Try.prog 19 #[.pointer (some ⟨b, 0, none⟩), .agg (aTick TOP 0)] w fun e w' => e = .returned (.tuple #[.agg (aSlot 7 0), .bool true, .int .i64 0]) ∧ LnA w' b mb q7 9 ∧ Far b mb w w' := by
  have := A_ret h (by omega) TOP 0 uT; rwa [r9] at this
theorem s10 {b mb : Nat} {w : World} (h : LnA w b mb q7 9) : Calls Try.prog 13 #[.pointer (some ⟨b, 0, none⟩)] w fun e w' => e = .returned (.agg (aSt 1 1 0 0 0 0)) ∧ Below w.heap.size w w' := by
  have := A_state h (by omega); rwa [r10] at this
theorem s11 {b mb : Nat} {w : World} (h : LnA w b mb q7 9) : Calls Try.prog 21 #[.pointer (some ⟨b, 0, none⟩), .agg (aTick 0 0)] w fun e w' => e = .returned (.bool true) ∧ Below w.heap.size w w' := by
  have := A_ready h (by omega) 0 0 u0; rwa [r11] at this
set_option maxRecDepth 100000 in
set_option maxHeartbeats 8000000 in
theorem awake_calls (w : World) : Calls Try.prog 9 #[] w fun e w' => e = .returned (.bool true) ∧ Below w.heap.size w w' := by
  go_enter Try.func9, Try.ntmps9
  go_upto_region 4 with (go_at_call 10; refine (A_new 2 true TOP (by omega) (by omega) uT _).mono ?_; rintro e1 w1 ⟨rfl, hb1, hl1⟩; have H1 : Aside0 (Aw w (w.heap.size + 1) w.heap.size q0 0 [] w1) := ⟨⟨hl1, hb1, Nat.le_succ _, Nat.le_refl _, by simp⟩⟩; clear hb1 hl1)
  obtain ⟨b, hb⟩ : ∃ b, w.heap.size + 1 = b := ⟨_, rfl⟩
  obtain ⟨mb, hm⟩ : ∃ mb, w.heap.size = mb := ⟨_, rfl⟩
  rw [hb] at H1 ⊢
  have H1' : Aside0 (Aw w b mb q0 0 [] w1) := ⟨hm ▸ H1.out⟩
  clear hb hm H1
  go_upto_region 5 with (go_at_call 15; refine (s1 H1'.out.ln).mono ?_; rintro e2 w2 ⟨rfl, hl2, hf2⟩; have H2 := Aside0.mk (H1'.out.call hl2 hf2); clear hl2 hf2)
  have H3 := Aside0.mk (H2.out.alloc (.cells (aTick TOP 0) 34))
  clear H1' H2
  generalize w2.alloc (.cells (aTick TOP 0) 34) = w3 at H3 ⊢
  generalize w2.heap.size = g1 at H3 ⊢
  go_upto_region 6 with (go_at_call 15; refine (s2 H3.out.ln).mono ?_; rintro e2 w4 ⟨rfl, hl2, hf2⟩; have H4 := Aside0.mk (H3.out.call hl2 hf2); clear hl2 hf2)
  have H5 := Aside0.mk (H4.out.alloc (.cells (aTick 0 0) 34))
  have hg12 : Aside0 (g1 < w4.heap.size) := ⟨(Array.getElem?_eq_some_iff.1 (H4.out.obj (g1, _) List.mem_cons_self).1).1⟩
  clear H3 H4
  generalize w4.alloc (.cells (aTick 0 0) 34) = w5 at H5 ⊢
  generalize w4.heap.size = g2 at H5 hg12 ⊢
  go_upto_region 7 with (go_at_call 15; refine (s3 H5.out.ln).mono ?_; rintro e2 w6 ⟨rfl, hl2, hf2⟩; have H6 := Aside0.mk (H5.out.call hl2 hf2); clear hl2 hf2)
  have H7 := Aside0.mk (H6.out.alloc (.cells (aTick 0 0) 34))
  clear H5 H6
  generalize w6.alloc (.cells (aTick 0 0) 34) = w7 at H7 ⊢
  generalize w6.heap.size = g3 at H7 ⊢
  refine wp_region_held_drew (S := fun w' => w'.heap[g1]? = some (.cells (aTick TOP 0) 34 (0, 0)) ∧ w'.heap[g2]? = some (.cells (aTick 0 0) 34 (0, 0))) (by kernel_rfl) ⟨H7.out.blk (by simp), H7.out.blk (by simp)⟩ (fun hHeld => ?_)
  refine take_at (i := 0) (v := _) 44 rfl rfl (by kernel_rfl) (by kernel_rfl) (by kernel_rfl) (fun _ _ _ h => h) (Or.inl ⟨by rfl, fun w' hW => by have hq0 := (tick_blk hW.1).1; have hq1 := (tick_blk hW.1).2; have hq2 := (tick_blk hW.2).1; have hq3 := (tick_blk hW.2).2; first | (go_simp; done) | (go_simp; with_reducible rfl) | (go_simp; rfl)⟩) hHeld ?_
  try simp only [Act.put, List.setIfInBounds_toArray, List.set_cons_zero, List.set_cons_succ]
  refine take_at (i := 1) (v := _) 45 rfl rfl (by kernel_rfl) (by kernel_rfl) (by kernel_rfl) (fun _ _ _ h => h) (Or.inl ⟨by rfl, fun w' hW => by have hq0 := (tick_blk hW.1).1; have hq1 := (tick_blk hW.1).2; have hq2 := (tick_blk hW.2).1; have hq3 := (tick_blk hW.2).2; first | (go_simp; done) | (go_simp; with_reducible rfl) | (go_simp; rfl)⟩) hHeld ?_
  try simp only [Act.put, List.setIfInBounds_toArray, List.set_cons_zero, List.set_cons_succ]
  refine take_at (i := 2) (v := _) 46 rfl rfl (by kernel_rfl) (by kernel_rfl) (by kernel_rfl) (fun _ _ _ h => h) (Or.inl ⟨by rfl, fun w' hW => by have hq0 := (tick_blk hW.1).1; have hq1 := (tick_blk hW.1).2; have hq2 := (tick_blk hW.2).1; have hq3 := (tick_blk hW.2).2; first | (go_simp; done) | (go_simp; with_reducible rfl) | (go_simp; rfl)⟩) hHeld ?_
  try simp only [Act.put, List.setIfInBounds_toArray, List.set_cons_zero, List.set_cons_succ]
  refine take_at (i := 4) (v := _) 48 rfl rfl (by kernel_rfl) (by kernel_rfl) (by kernel_rfl) (fun _ _ _ h => h) (Or.inl ⟨by rfl, fun w' hW => by have hq0 := (tick_blk hW.1).1; have hq1 := (tick_blk hW.1).2; have hq2 := (tick_blk hW.2).1; have hq3 := (tick_blk hW.2).2; first | (go_simp; done) | (go_simp; with_reducible rfl) | (go_simp; rfl)⟩) hHeld ?_
  try simp only [Act.put, List.setIfInBounds_toArray, List.set_cons_zero, List.set_cons_succ]
  refine take_at (i := 5) (v := _) 49 rfl rfl (by kernel_rfl) (by kernel_rfl) (by kernel_rfl) (fun _ _ _ h => h) (Or.inl ⟨by rfl, fun w' hW => by have hq0 := (tick_blk hW.1).1; have hq1 := (tick_blk hW.1).2; have hq2 := (tick_blk hW.2).1; have hq3 := (tick_blk hW.2).2; first | (go_simp; done) | (go_simp; with_reducible rfl) | (go_simp; rfl)⟩) hHeld ?_
  try simp only [Act.put, List.setIfInBounds_toArray, List.set_cons_zero, List.set_cons_succ]
  refine take_at (i := 6) (v := _) 50 rfl rfl (by kernel_rfl) (by kernel_rfl) (by kernel_rfl) (fun _ _ _ h => h) (Or.inl ⟨by rfl, fun w' hW => by have hq0 := (tick_blk hW.1).1; have hq1 := (tick_blk hW.1).2; have hq2 := (tick_blk hW.2).1; have hq3 := (tick_blk hW.2).2; first | (go_simp; done) | (go_simp; with_reducible rfl) | (go_simp; rfl)⟩) hHeld ?_
  try simp only [Act.put, List.setIfInBounds_toArray, List.set_cons_zero, List.set_cons_succ]
  have HAx := Aside0.mk (H7.out.below (Below.refl _ _).drew)
  clear hHeld
  generalize w7.drew = wdx at HAx ⊢
  refine wpAnyH_ready (rs := [3]) (by kernel_rfl) (by simp) ?_
  refine AllReadyH.cons rfl (fun K hK => ?_) AllReadyH.nil
  go_simp
  go_wp2_with (first | (go_at_call 16; refine (s4 HAx.out.ln).mono ?_; rintro e2 wbx ⟨rfl, hl2, hf2⟩; have HBx := Aside0.mk (HAx.out.call hl2 hf2); clear hl2 hf2))
  refine hK.out _ _ ⟨HBx.out.blk (by simp), HBx.out.blk (by simp)⟩ (fun hHeld => ?_)
  clear hK K
  try simp only [Act.put, List.setIfInBounds_toArray, List.set_cons_zero, List.set_cons_succ]
  clear hHeld
  refine wpAnyH_ready (rs := [7]) (by kernel_rfl) (by simp) ?_
  refine AllReadyH.cons rfl (fun K hK => ?_) AllReadyH.nil
  go_simp
  go_wp2_with (first | (go_at_call 16; refine (s5 HBx.out.ln).mono ?_; rintro e2 wcx ⟨rfl, hl2, hf2⟩; have HCx := Aside0.mk (HBx.out.call hl2 hf2); clear hl2 hf2))
  refine hK.out _ _ ⟨HCx.out.blk (by simp), HCx.out.blk (by simp)⟩ (fun hHeld => ?_)
  clear hK K
  try simp only [Act.put, List.setIfInBounds_toArray, List.set_cons_zero, List.set_cons_succ]
  refine take_at (i := 8) (v := _) 9 rfl rfl (by kernel_rfl) (by kernel_rfl) (by kernel_rfl) (fun _ _ _ h => h) (Or.inl ⟨by rfl, fun w' hW => by have hq0 := (tick_blk hW.1).1; have hq1 := (tick_blk hW.1).2; have hq2 := (tick_blk hW.2).1; have hq3 := (tick_blk hW.2).2; first | (go_simp; done) | (go_simp; with_reducible rfl) | (go_simp; rfl)⟩) hHeld ?_
  try simp only [Act.put, List.setIfInBounds_toArray, List.set_cons_zero, List.set_cons_succ]
  refine take_at (i := 9) (v := _) 10 rfl rfl (by kernel_rfl) (by kernel_rfl) (by kernel_rfl) (fun _ _ _ h => h) (Or.inl ⟨by rfl, fun w' hW => by have hq0 := (tick_blk hW.1).1; have hq1 := (tick_blk hW.1).2; have hq2 := (tick_blk hW.2).1; have hq3 := (tick_blk hW.2).2; first | (go_simp; done) | (go_simp; with_reducible rfl) | (go_simp; rfl)⟩) hHeld ?_
  try simp only [Act.put, List.setIfInBounds_toArray, List.set_cons_zero, List.set_cons_succ]
  refine wpAnyH_done (by kernel_rfl) ?_ _
  clear hHeld
  clear HAx HBx
  clear H7
  go_upto_region 8 with fail
  refine wp_region_held_drew (S := fun w' => w'.heap[g1]? = some (.cells (aTick TOP 0) 34 (0, 0)) ∧ w'.heap[g2]? = some (.cells (aTick 0 0) 34 (0, 0))) (by kernel_rfl) ⟨HCx.out.blk (by simp), HCx.out.blk (by simp)⟩ (fun hHeld => ?_)
  refine take_at (i := 0) (v := _) 52 rfl rfl (by kernel_rfl) (by kernel_rfl) (by kernel_rfl) (fun _ _ _ h => h) (Or.inl ⟨by rfl, fun w' hW => by have hq0 := (tick_blk hW.1).1; have hq1 := (tick_blk hW.1).2; have hq2 := (tick_blk hW.2).1; have hq3 := (tick_blk hW.2).2; first | (go_simp; done) | (go_simp; with_reducible rfl) | (go_simp; rfl)⟩) hHeld ?_
  try simp only [Act.put, List.setIfInBounds_toArray, List.set_cons_zero, List.set_cons_succ]
  refine take_at (i := 1) (v := _) 53 rfl rfl (by kernel_rfl) (by kernel_rfl) (by kernel_rfl) (fun _ _ _ h => h) (Or.inl ⟨by rfl, fun w' hW => by have hq0 := (tick_blk hW.1).1; have hq1 := (tick_blk hW.1).2; have hq2 := (tick_blk hW.2).1; have hq3 := (tick_blk hW.2).2; first | (go_simp; done) | (go_simp; with_reducible rfl) | (go_simp; rfl)⟩) hHeld ?_
  try simp only [Act.put, List.setIfInBounds_toArray, List.set_cons_zero, List.set_cons_succ]
  refine take_at (i := 2) (v := _) 54 rfl rfl (by kernel_rfl) (by kernel_rfl) (by kernel_rfl) (fun _ _ _ h => h) (Or.inl ⟨by rfl, fun w' hW => by have hq0 := (tick_blk hW.1).1; have hq1 := (tick_blk hW.1).2; have hq2 := (tick_blk hW.2).1; have hq3 := (tick_blk hW.2).2; first | (go_simp; done) | (go_simp; with_reducible rfl) | (go_simp; rfl)⟩) hHeld ?_
  try simp only [Act.put, List.setIfInBounds_toArray, List.set_cons_zero, List.set_cons_succ]
  refine take_at (i := 4) (v := _) 56 rfl rfl (by kernel_rfl) (by kernel_rfl) (by kernel_rfl) (fun _ _ _ h => h) (Or.inl ⟨by rfl, fun w' hW => by have hq0 := (tick_blk hW.1).1; have hq1 := (tick_blk hW.1).2; have hq2 := (tick_blk hW.2).1; have hq3 := (tick_blk hW.2).2; first | (go_simp; done) | (go_simp; with_reducible rfl) | (go_simp; rfl)⟩) hHeld ?_
  try simp only [Act.put, List.setIfInBounds_toArray, List.set_cons_zero, List.set_cons_succ]
  refine take_at (i := 5) (v := _) 57 rfl rfl (by kernel_rfl) (by kernel_rfl) (by kernel_rfl) (fun _ _ _ h => h) (Or.inl ⟨by rfl, fun w' hW => by have hq0 := (tick_blk hW.1).1; have hq1 := (tick_blk hW.1).2; have hq2 := (tick_blk hW.2).1; have hq3 := (tick_blk hW.2).2; first | (go_simp; done) | (go_simp; with_reducible rfl) | (go_simp; rfl)⟩) hHeld ?_
  try simp only [Act.put, List.setIfInBounds_toArray, List.set_cons_zero, List.set_cons_succ]
  refine take_at (i := 6) (v := _) 58 rfl rfl (by kernel_rfl) (by kernel_rfl) (by kernel_rfl) (fun _ _ _ h => h) (Or.inl ⟨by rfl, fun w' hW => by have hq0 := (tick_blk hW.1).1; have hq1 := (tick_blk hW.1).2; have hq2 := (tick_blk hW.2).1; have hq3 := (tick_blk hW.2).2; first | (go_simp; done) | (go_simp; with_reducible rfl) | (go_simp; rfl)⟩) hHeld ?_
  try simp only [Act.put, List.setIfInBounds_toArray, List.set_cons_zero, List.set_cons_succ]
  have HAy := Aside0.mk (HCx.out.below (Below.refl _ _).drew)
  clear hHeld
  generalize wcx.drew = wdy at HAy ⊢
  refine wpAnyH_ready (rs := [3]) (by kernel_rfl) (by simp) ?_
  refine AllReadyH.cons rfl (fun K hK => ?_) AllReadyH.nil
  go_simp
  go_wp2_with (first | (go_at_call 20; refine (s6 HAy.out.ln).mono ?_; rintro e2 wby ⟨rfl, hl2, hf2⟩; have HBy := Aside0.mk (HAy.out.call hl2 hf2); clear hl2 hf2))
  refine hK.out _ _ ⟨HBy.out.blk (by simp), HBy.out.blk (by simp)⟩ (fun hHeld => ?_)
  clear hK K
  try simp only [Act.put, List.setIfInBounds_toArray, List.set_cons_zero, List.set_cons_succ]
  clear hHeld
  refine wpAnyH_ready (rs := [7]) (by kernel_rfl) (by simp) ?_
  refine AllReadyH.cons rfl (fun K hK => ?_) AllReadyH.nil
  go_simp
  go_wp2_with (first | (go_at_call 20; refine (s7 HBy.out.ln).mono ?_; rintro e2 wcy ⟨rfl, hl2, hf2⟩; have HCy := Aside0.mk (HBy.out.call hl2 hf2); clear hl2 hf2))
  refine hK.out _ _ ⟨HCy.out.blk (by simp), HCy.out.blk (by simp)⟩ (fun hHeld => ?_)
  clear hK K
  try simp only [Act.put, List.setIfInBounds_toArray, List.set_cons_zero, List.set_cons_succ]
  refine take_at (i := 8) (v := _) 11 rfl rfl (by kernel_rfl) (by kernel_rfl) (by kernel_rfl) (fun _ _ _ h => h) (Or.inl ⟨by rfl, fun w' hW => by have hq0 := (tick_blk hW.1).1; have hq1 := (tick_blk hW.1).2; have hq2 := (tick_blk hW.2).1; have hq3 := (tick_blk hW.2).2; first | (go_simp; done) | (go_simp; with_reducible rfl) | (go_simp; rfl)⟩) hHeld ?_
  try simp only [Act.put, List.setIfInBounds_toArray, List.set_cons_zero, List.set_cons_succ]
  refine take_at (i := 9) (v := _) 12 rfl rfl (by kernel_rfl) (by kernel_rfl) (by kernel_rfl) (fun _ _ _ h => h) (Or.inl ⟨by rfl, fun w' hW => by have hq0 := (tick_blk hW.1).1; have hq1 := (tick_blk hW.1).2; have hq2 := (tick_blk hW.2).1; have hq3 := (tick_blk hW.2).2; first | (go_simp; done) | (go_simp; with_reducible rfl) | (go_simp; rfl)⟩) hHeld ?_
  try simp only [Act.put, List.setIfInBounds_toArray, List.set_cons_zero, List.set_cons_succ]
  refine wpAnyH_done (by kernel_rfl) ?_ _
  clear hHeld
  clear HAy HBy
  clear HCx
  go_upto_region 10 with (go_at_call 17; refine (s8 HCy.out.ln).mono ?_; rintro e2 wt ⟨rfl, hl2, hf2⟩; have HT := Aside0.mk (HCy.out.call hl2 hf2); clear hl2 hf2)
  have H8 := Aside0.mk ((HT.out.alloc (.cells (aSlot 7 0) 36)).alloc (.cells (aTick TOP 0) 34))
  rw [show (wt.alloc (.cells (aSlot 7 0) 36)).heap.size = wt.heap.size + 1 from World.size_alloc _ _] at H8
  clear HCy HT
  generalize (wt.alloc (.cells (aSlot 7 0) 36)).alloc (.cells (aTick TOP 0) 34) = w8 at H8 ⊢
  obtain ⟨g4, hg4⟩ : ∃ g, wt.heap.size + 1 = g := ⟨_, rfl⟩
  rw [hg4] at H8 ⊢
  generalize wt.heap.size = g5 at H8 ⊢
  clear hg4
  have k0 := (H8.out.ptr (List.mem_cons_self) 0).1
  have k1 := (H8.out.ptr (List.mem_cons_self) 1).1
  change w8.cell? ⟨g4, 0, none⟩ = some (.int .u64 TOP) at k0
  change w8.cell? ⟨g4, 1, none⟩ = some (.int .u64 0) at k1
  go_wp2_with (first | (go_at_call 19; refine (s9 H8.out.ln).mono ?_; rintro e2 wr ⟨rfl, hl2, hf2⟩; have H9 := Aside0.mk ((H8.out.call hl2 hf2).alloc (.cells (aSlot 7 0) 36)); clear hl2 hf2; have m0 : (wr.alloc (.cells (aSlot 7 0) 36)).cell? ⟨g1, 0, none⟩ = some (.int .u64 TOP) := (H9.out.ptr (g := g1) (C := aTick TOP 0) (t := 34) (by simp) 0).1; have m1 : (wr.alloc (.cells (aSlot 7 0) 36)).cell? ⟨g1, 1, none⟩ = some (.int .u64 0) := (H9.out.ptr (g := g1) (C := aTick TOP 0) (t := 34) (by simp) 1).1; have m2 : (wr.alloc (.cells (aSlot 7 0) 36)).cell? ⟨g2, 0, none⟩ = some (.int .u64 0) := (H9.out.ptr (g := g2) (C := aTick 0 0) (t := 34) (by simp) 0).1; have m3 : (wr.alloc (.cells (aSlot 7 0) 36)).cell? ⟨g5, 0, none⟩ = some (.int .i64 7) := (H9.out.ptr (g := g5) (C := aSlot 7 0) (t := 36) (by simp) 0).1; have m4 : (wr.alloc (.cells (aSlot 7 0) 36)).cell? ⟨g5, 1, none⟩ = some (.int .u64 0) := (H9.out.ptr (g := g5) (C := aSlot 7 0) (t := 36) (by simp) 1).1; have m5 : (wr.alloc (.cells (aSlot 7 0) 36)).cell? ⟨g4, 0, none⟩ = some (.int .u64 TOP) := (H9.out.ptr (g := g4) (C := aTick TOP 0) (t := 34) (by simp) 0).1; have m6 : (wr.alloc (.cells (aSlot 7 0) 36)).cell? ⟨g4, 1, none⟩ = some (.int .u64 0) := (H9.out.ptr (g := g4) (C := aTick TOP 0) (t := 34) (by simp) 1).1; have m7 : (wr.alloc (.cells (aSlot 7 0) 36)).cell? ⟨wr.heap.size, 0, none⟩ = some (.int .i64 7) := (H9.out.ptr List.mem_cons_self 0).1; have m8 : (wr.alloc (.cells (aSlot 7 0) 36)).cell? ⟨wr.heap.size, 1, none⟩ = some (.int .u64 0) := (H9.out.ptr List.mem_cons_self 1).1) | (go_at_call 13; refine (s10 H9.out.ln).mono ?_; rintro e2 ws ⟨rfl, hb2⟩; have H10 := Aside0.mk (H9.out.below hb2); clear hb2; have n0 : ws.cell? ⟨g2, 0, none⟩ = some (.int .u64 0) := (H10.out.ptr (g := g2) (C := aTick 0 0) (t := 34) (by simp) 0).1; have n1 : ws.cell? ⟨g2, 1, none⟩ = some (.int .u64 0) := (H10.out.ptr (g := g2) (C := aTick 0 0) (t := 34) (by simp) 1).1) | (go_at_call 21; refine (s11 H10.out.ln).mono ?_; rintro e2 wz ⟨rfl, hb2⟩; have H11 := Aside0.mk (H10.out.below hb2); clear hb2))
  go_ret
  exact ⟨rfl, H11.out.be⟩
end Go.Proofs.Ytglekbbdbnpohaa.QLn
