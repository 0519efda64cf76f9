/- Lane: XRLn, YRLn joined. -/
import Derived.Test.YtglekbbdbnpohaaZ5Ln
/- Lane: LaneRuns: a call of a lane and of the document's. Written by a program of this repo (tools/gen_rstep.py). -/
namespace Go.Proofs.Ytglekbbdbnpohaa.QLn
open Go.RowKit Go.Proofs.YtglekbbdbnpohaaW.PrintWords Go.Proofs.YtglekbbdbnpohaaW.PrintLast Go.Proofs.YtglekbbdbnpohaaW.PrintMore
set_option linter.unusedVariables false
set_option linter.unusedSimpArgs false
set_option maxRecDepth 100000 in
set_option maxHeartbeats 8000000 in
theorem step_calls {W0 : World} {b m rb B k : Nat} {a : AS} {L : List (Nat × Obj)} (xx : S40) (hq : U64 xx.f1.f0) (w : World) (hA : Ar W0 b m a rb B a k L w) (hk : k + 2 < 1000000) :
    Calls Try.prog 12 #[.pointer (some ⟨b, 0, none⟩), .pointer (some ⟨rb, 0, none⟩), .agg (aO xx)] w fun e w' => e = .returned (.bool true) ∧ ∃ a1, Ar W0 b m a1 rb B a1 (k + 1) L w' := by
  have HQ := Aside0.mk hq
  have HOK := Aside0.mk (hA.l1.ok (by omega))
  have HA := Aside0.mk hA
  have HK := Aside0.mk hk
  clear hq hA hk
  go_enter Try.func12, Try.ntmps12
  go_upto_region 1 with fail
  have HA1 := Aside0.mk (HA.out.alloc (.cells (aO xx) 40))
  clear HA
  generalize w.alloc (.cells (aO xx) 40) = w4 at HA1 ⊢
  generalize w.heap.size = g at HA1 ⊢
  have t0 : w4.cell? ⟨g, 0, none⟩ = some (.int .i64 xx.f0) := (HA1.out.ptr (g := g) (C := aO xx) (t := 40) (by simp) 0).1
  have t1 : w4.cell? ⟨g, 1, none⟩ = some (.int .u64 xx.f1.f0) := (HA1.out.ptr (g := g) (C := aO xx) (t := 40) (by simp) 1).1
  have t2 : w4.cell? ⟨g, 2, none⟩ = some (.int .u64 xx.f1.f1) := (HA1.out.ptr (g := g) (C := aO xx) (t := 40) (by simp) 2).1
  by_cases hk1 : xx.f0 = 1
  · have k1 : (xx.f0 == 1) = true := by simp [hk1]
    clear hk1
    obtain ⟨tq, te, er, hcl⟩ := claimR_shape a
    have HCL := Aside0.mk hcl
    clear hcl
    go_upto_region 5 with (go_at_call 15; refine (A_claim HA1.out.l1).mono ?_; rewrite [HCL.out]; rintro e w5 ⟨rfl, hl5, hf5⟩; have HA2 := Aside0.mk ((HA1.out.call1 hl5 hf5).alloc (.cells (aTick tq te) 34)); clear hl5 hf5)
    clear t0 t1 t2
    generalize w5.alloc (.cells (aTick tq te) 34) = w6 at HA2 ⊢
    generalize w5.heap.size = g3 at HA2 ⊢
    go_upto_region 6 with (go_at_call 25; refine (R_claim HA2.out.l2).mono ?_; rewrite [HCL.out]; rintro e w7 ⟨rfl, hl7, hf7⟩; have HA3 := Aside0.mk ((HA2.out.call2 hl7 hf7).alloc (.cells (aTick tq te) 34)); clear hl7 hf7)
    generalize w7.alloc (.cells (aTick tq te) 34) = w8 at HA3 ⊢
    generalize w7.heap.size = g5 at HA3 ⊢
    have s0 : w8.cell? ⟨g3, 0, none⟩ = some (.int .u64 tq) := (HA3.out.ptr (g := g3) (C := aTick tq te) (t := 34) (by simp) 0).1
    have s1 : w8.cell? ⟨g3, 1, none⟩ = some (.int .u64 te) := (HA3.out.ptr (g := g3) (C := aTick tq te) (t := 34) (by simp) 1).1
    have s2 : w8.cell? ⟨g5, 0, none⟩ = some (.int .u64 tq) := (HA3.out.ptr (g := g5) (C := aTick tq te) (t := 34) (by simp) 0).1
    have s3 : w8.cell? ⟨g5, 1, none⟩ = some (.int .u64 te) := (HA3.out.ptr (g := g5) (C := aTick tq te) (t := 34) (by simp) 1).1
    go_wp2
    go_ret
    exact ⟨rfl, _, HA3.out.sub (fun p hp => by simp [hp])⟩
  · skip
    by_cases hk2 : xx.f0 = 2
    · have k1 : (xx.f0 == 1) = false := by simp [hk1]
      have k2 : (xx.f0 == 2) = true := by simp [hk2]
      clear hk1 hk2
      obtain ⟨er, hcl⟩ : ∃ er, (layR a xx.f1.f0 xx.f1.f1 xx.f2.f0 xx.f2.f1).2 = er := ⟨_, rfl⟩
      have HCL := Aside0.mk hcl
      clear hcl
      clear t1 t2
      go_upto_region 8 with fail
      clear t0
      refine wp_region_held_drew (S := fun w' => w'.heap[g]? = some (.cells (aO xx) 40 (0, 0))) (by kernel_rfl) (HA1.out.obj (g, .cells (aO xx) 40) (by simp)).1 (fun hHeld => ?_)
      refine take_at (i := 0) (v := _) 57 rfl rfl (by kernel_rfl) (by kernel_rfl) (by kernel_rfl) (fun _ _ _ h => h) (Or.inl ⟨by rfl, fun w' hW => by have hq0 := (op_blk hW).2.1; have hq1 := (op_blk hW).2.2.1; have hq2 := (op_blk hW).2.2.2.1; have hq3 := (op_blk hW).2.2.2.2.1; have hq4 := (op_blk hW).2.2.2.2.2.1; have hq5 := (op_blk hW).2.2.2.2.2.2; first | (go_simp; done) | (go_simp; with_reducible rfl) | (go_simp; rfl)⟩) hHeld ?_
      try simp only [Act.put, List.setIfInBounds_toArray, List.set_cons_zero, List.set_cons_succ]
      refine take_at (i := 1) (v := _) 58 rfl rfl (by kernel_rfl) (by kernel_rfl) (by kernel_rfl) (fun _ _ _ h => h) (Or.inl ⟨by rfl, fun w' hW => by have hq0 := (op_blk hW).2.1; have hq1 := (op_blk hW).2.2.1; have hq2 := (op_blk hW).2.2.2.1; have hq3 := (op_blk hW).2.2.2.2.1; have hq4 := (op_blk hW).2.2.2.2.2.1; have hq5 := (op_blk hW).2.2.2.2.2.2; first | (go_simp; done) | (go_simp; with_reducible rfl) | (go_simp; rfl)⟩) hHeld ?_
      try simp only [Act.put, List.setIfInBounds_toArray, List.set_cons_zero, List.set_cons_succ]
      refine take_at (i := 2) (v := _) 59 rfl rfl (by kernel_rfl) (by kernel_rfl) (by kernel_rfl) (fun _ _ _ h => h) (Or.inl ⟨by rfl, fun w' hW => by have hq0 := (op_blk hW).2.1; have hq1 := (op_blk hW).2.2.1; have hq2 := (op_blk hW).2.2.2.1; have hq3 := (op_blk hW).2.2.2.2.1; have hq4 := (op_blk hW).2.2.2.2.2.1; have hq5 := (op_blk hW).2.2.2.2.2.2; first | (go_simp; done) | (go_simp; with_reducible rfl) | (go_simp; rfl)⟩) hHeld ?_
      try simp only [Act.put, List.setIfInBounds_toArray, List.set_cons_zero, List.set_cons_succ]
      refine take_at (i := 3) (v := _) 60 rfl rfl (by kernel_rfl) (by kernel_rfl) (by kernel_rfl) (fun _ _ _ h => h) (Or.inl ⟨by rfl, fun w' hW => by have hq0 := (op_blk hW).2.1; have hq1 := (op_blk hW).2.2.1; have hq2 := (op_blk hW).2.2.2.1; have hq3 := (op_blk hW).2.2.2.2.1; have hq4 := (op_blk hW).2.2.2.2.2.1; have hq5 := (op_blk hW).2.2.2.2.2.2; first | (go_simp; done) | (go_simp; with_reducible rfl) | (go_simp; rfl)⟩) hHeld ?_
      try simp only [Act.put, List.setIfInBounds_toArray, List.set_cons_zero, List.set_cons_succ]
      refine take_at (i := 4) (v := _) 61 rfl rfl (by kernel_rfl) (by kernel_rfl) (by kernel_rfl) (fun _ _ _ h => h) (Or.inl ⟨by rfl, fun w' hW => by have hq0 := (op_blk hW).2.1; have hq1 := (op_blk hW).2.2.1; have hq2 := (op_blk hW).2.2.2.1; have hq3 := (op_blk hW).2.2.2.2.1; have hq4 := (op_blk hW).2.2.2.2.2.1; have hq5 := (op_blk hW).2.2.2.2.2.2; first | (go_simp; done) | (go_simp; with_reducible rfl) | (go_simp; rfl)⟩) hHeld ?_
      try simp only [Act.put, List.setIfInBounds_toArray, List.set_cons_zero, List.set_cons_succ]
      refine take_at (i := 6) (v := _) 63 rfl rfl (by kernel_rfl) (by kernel_rfl) (by kernel_rfl) (fun _ _ _ h => h) (Or.inl ⟨by rfl, fun w' hW => by have hq0 := (op_blk hW).2.1; have hq1 := (op_blk hW).2.2.1; have hq2 := (op_blk hW).2.2.2.1; have hq3 := (op_blk hW).2.2.2.2.1; have hq4 := (op_blk hW).2.2.2.2.2.1; have hq5 := (op_blk hW).2.2.2.2.2.2; first | (go_simp; done) | (go_simp; with_reducible rfl) | (go_simp; rfl)⟩) hHeld ?_
      try simp only [Act.put, List.setIfInBounds_toArray, List.set_cons_zero, List.set_cons_succ]
      refine take_at (i := 7) (v := _) 64 rfl rfl (by kernel_rfl) (by kernel_rfl) (by kernel_rfl) (fun _ _ _ h => h) (Or.inl ⟨by rfl, fun w' hW => by have hq0 := (op_blk hW).2.1; have hq1 := (op_blk hW).2.2.1; have hq2 := (op_blk hW).2.2.2.1; have hq3 := (op_blk hW).2.2.2.2.1; have hq4 := (op_blk hW).2.2.2.2.2.1; have hq5 := (op_blk hW).2.2.2.2.2.2; first | (go_simp; done) | (go_simp; with_reducible rfl) | (go_simp; rfl)⟩) hHeld ?_
      try simp only [Act.put, List.setIfInBounds_toArray, List.set_cons_zero, List.set_cons_succ]
      refine take_at (i := 8) (v := _) 65 rfl rfl (by kernel_rfl) (by kernel_rfl) (by kernel_rfl) (fun _ _ _ h => h) (Or.inl ⟨by rfl, fun w' hW => by have hq0 := (op_blk hW).2.1; have hq1 := (op_blk hW).2.2.1; have hq2 := (op_blk hW).2.2.2.1; have hq3 := (op_blk hW).2.2.2.2.1; have hq4 := (op_blk hW).2.2.2.2.2.1; have hq5 := (op_blk hW).2.2.2.2.2.2; first | (go_simp; done) | (go_simp; with_reducible rfl) | (go_simp; rfl)⟩) hHeld ?_
      try simp only [Act.put, List.setIfInBounds_toArray, List.set_cons_zero, List.set_cons_succ]
      refine take_at (i := 9) (v := _) 66 rfl rfl (by kernel_rfl) (by kernel_rfl) (by kernel_rfl) (fun _ _ _ h => h) (Or.inl ⟨by rfl, fun w' hW => by have hq0 := (op_blk hW).2.1; have hq1 := (op_blk hW).2.2.1; have hq2 := (op_blk hW).2.2.2.1; have hq3 := (op_blk hW).2.2.2.2.1; have hq4 := (op_blk hW).2.2.2.2.2.1; have hq5 := (op_blk hW).2.2.2.2.2.2; first | (go_simp; done) | (go_simp; with_reducible rfl) | (go_simp; rfl)⟩) hHeld ?_
      try simp only [Act.put, List.setIfInBounds_toArray, List.set_cons_zero, List.set_cons_succ]
      refine take_at (i := 10) (v := _) 67 rfl rfl (by kernel_rfl) (by kernel_rfl) (by kernel_rfl) (fun _ _ _ h => h) (Or.inl ⟨by rfl, fun w' hW => by have hq0 := (op_blk hW).2.1; have hq1 := (op_blk hW).2.2.1; have hq2 := (op_blk hW).2.2.2.1; have hq3 := (op_blk hW).2.2.2.2.1; have hq4 := (op_blk hW).2.2.2.2.2.1; have hq5 := (op_blk hW).2.2.2.2.2.2; first | (go_simp; done) | (go_simp; with_reducible rfl) | (go_simp; rfl)⟩) hHeld ?_
      try simp only [Act.put, List.setIfInBounds_toArray, List.set_cons_zero, List.set_cons_succ]
      have HP0 := Aside0.mk (HA1.out.below (Below.refl _ _).drew)
      clear hHeld
      generalize w4.drew = wd0 at HP0 ⊢
      refine wpAnyH_ready (rs := [5]) (by kernel_rfl) (by simp) ?_
      refine AllReadyH.cons rfl (fun K hK => ?_) AllReadyH.nil
      go_simp
      go_wp2_with (go_at_call 16; refine (A_lay HP0.out.l1 (by have := HK.out; omega) xx.f1.f0 xx.f1.f1 xx.f2.f0 xx.f2.f1 HQ.out).mono ?_; rewrite [HCL.out]; rintro e w5 ⟨rfl, hl5, hf5⟩; have HP1 := Aside0.mk (HP0.out.call1 hl5 hf5); clear hl5 hf5)
      refine hK.out _ _ (HP1.out.obj (g, .cells (aO xx) 40) (by simp)).1 (fun hHeld => ?_)
      clear hK K
      try simp only [Act.put, List.setIfInBounds_toArray, List.set_cons_zero, List.set_cons_succ]
      refine wpAnyH_ready (rs := [11]) (by kernel_rfl) (by simp) ?_
      refine AllReadyH.cons rfl (fun K hK => ?_) AllReadyH.nil
      go_simp
      go_wp2_with (go_at_call 26; refine (R_lay HP1.out.l2 HOK.out xx.f1.f0 xx.f1.f1 xx.f2.f0 xx.f2.f1 HQ.out).mono ?_; rewrite [HCL.out]; rintro e w6 ⟨rfl, hl6, hf6⟩; have HP2 := Aside0.mk (HP1.out.call2 hl6 hf6); clear hl6 hf6)
      refine hK.out _ _ (HP2.out.obj (g, .cells (aO xx) 40) (by simp)).1 (fun hHeld => ?_)
      clear hK K
      try simp only [Act.put, List.setIfInBounds_toArray, List.set_cons_zero, List.set_cons_succ]
      refine take_at (i := 12) (v := _) 69 rfl rfl (by kernel_rfl) (by kernel_rfl) (by kernel_rfl) (fun _ _ _ h => h) (Or.inl ⟨by rfl, fun w' hW => by have hq0 := (op_blk hW).2.1; have hq1 := (op_blk hW).2.2.1; have hq2 := (op_blk hW).2.2.2.1; have hq3 := (op_blk hW).2.2.2.2.1; have hq4 := (op_blk hW).2.2.2.2.2.1; have hq5 := (op_blk hW).2.2.2.2.2.2; first | (go_simp; done) | (go_simp; with_reducible rfl) | (go_simp; rfl)⟩) hHeld ?_
      try simp only [Act.put, List.setIfInBounds_toArray, List.set_cons_zero, List.set_cons_succ]
      refine take_at (i := 13) (v := _) 6 rfl rfl (by kernel_rfl) (by kernel_rfl) (by kernel_rfl) (fun _ _ _ h => h) (Or.inl ⟨by rfl, fun w' hW => by have hq0 := (op_blk hW).2.1; have hq1 := (op_blk hW).2.2.1; have hq2 := (op_blk hW).2.2.2.1; have hq3 := (op_blk hW).2.2.2.2.1; have hq4 := (op_blk hW).2.2.2.2.2.1; have hq5 := (op_blk hW).2.2.2.2.2.2; first | (go_simp; done) | (go_simp; with_reducible rfl) | (go_simp; rfl)⟩) hHeld ?_
      try simp only [Act.put, List.setIfInBounds_toArray, List.set_cons_zero, List.set_cons_succ]
      refine wpAnyH_done (by kernel_rfl) ?_ _
      clear hHeld
      go_wp2
      go_ret
      exact ⟨rfl, _, HP2.out.sub (fun p hp => by simp [hp])⟩
    · skip
      by_cases hk3 : xx.f0 = 3
      · have k1 : (xx.f0 == 1) = false := by simp [hk1]
        have k2 : (xx.f0 == 2) = false := by simp [hk2]
        have k3 : (xx.f0 == 3) = true := by simp [hk3]
        clear hk1 hk2 hk3
        obtain ⟨er, hcl⟩ : ∃ er, readyR a xx.f1.f0 xx.f1.f1 = er := ⟨_, rfl⟩
        have HCL := Aside0.mk hcl
        clear hcl
        clear t1 t2
        go_upto_region 10 with fail
        clear t0
        refine wp_region_held_drew (S := fun w' => w'.heap[g]? = some (.cells (aO xx) 40 (0, 0))) (by kernel_rfl) (HA1.out.obj (g, .cells (aO xx) 40) (by simp)).1 (fun hHeld => ?_)
        refine take_at (i := 0) (v := _) 72 rfl rfl (by kernel_rfl) (by kernel_rfl) (by kernel_rfl) (fun _ _ _ h => h) (Or.inl ⟨by rfl, fun w' hW => by have hq0 := (op_blk hW).2.1; have hq1 := (op_blk hW).2.2.1; have hq2 := (op_blk hW).2.2.2.1; have hq3 := (op_blk hW).2.2.2.2.1; have hq4 := (op_blk hW).2.2.2.2.2.1; have hq5 := (op_blk hW).2.2.2.2.2.2; first | (go_simp; done) | (go_simp; with_reducible rfl) | (go_simp; rfl)⟩) hHeld ?_
        try simp only [Act.put, List.setIfInBounds_toArray, List.set_cons_zero, List.set_cons_succ]
        refine take_at (i := 1) (v := _) 73 rfl rfl (by kernel_rfl) (by kernel_rfl) (by kernel_rfl) (fun _ _ _ h => h) (Or.inl ⟨by rfl, fun w' hW => by have hq0 := (op_blk hW).2.1; have hq1 := (op_blk hW).2.2.1; have hq2 := (op_blk hW).2.2.2.1; have hq3 := (op_blk hW).2.2.2.2.1; have hq4 := (op_blk hW).2.2.2.2.2.1; have hq5 := (op_blk hW).2.2.2.2.2.2; first | (go_simp; done) | (go_simp; with_reducible rfl) | (go_simp; rfl)⟩) hHeld ?_
        try simp only [Act.put, List.setIfInBounds_toArray, List.set_cons_zero, List.set_cons_succ]
        refine take_at (i := 2) (v := _) 74 rfl rfl (by kernel_rfl) (by kernel_rfl) (by kernel_rfl) (fun _ _ _ h => h) (Or.inl ⟨by rfl, fun w' hW => by have hq0 := (op_blk hW).2.1; have hq1 := (op_blk hW).2.2.1; have hq2 := (op_blk hW).2.2.2.1; have hq3 := (op_blk hW).2.2.2.2.1; have hq4 := (op_blk hW).2.2.2.2.2.1; have hq5 := (op_blk hW).2.2.2.2.2.2; first | (go_simp; done) | (go_simp; with_reducible rfl) | (go_simp; rfl)⟩) hHeld ?_
        try simp only [Act.put, List.setIfInBounds_toArray, List.set_cons_zero, List.set_cons_succ]
        refine take_at (i := 4) (v := _) 76 rfl rfl (by kernel_rfl) (by kernel_rfl) (by kernel_rfl) (fun _ _ _ h => h) (Or.inl ⟨by rfl, fun w' hW => by have hq0 := (op_blk hW).2.1; have hq1 := (op_blk hW).2.2.1; have hq2 := (op_blk hW).2.2.2.1; have hq3 := (op_blk hW).2.2.2.2.1; have hq4 := (op_blk hW).2.2.2.2.2.1; have hq5 := (op_blk hW).2.2.2.2.2.2; first | (go_simp; done) | (go_simp; with_reducible rfl) | (go_simp; rfl)⟩) hHeld ?_
        try simp only [Act.put, List.setIfInBounds_toArray, List.set_cons_zero, List.set_cons_succ]
        refine take_at (i := 5) (v := _) 77 rfl rfl (by kernel_rfl) (by kernel_rfl) (by kernel_rfl) (fun _ _ _ h => h) (Or.inl ⟨by rfl, fun w' hW => by have hq0 := (op_blk hW).2.1; have hq1 := (op_blk hW).2.2.1; have hq2 := (op_blk hW).2.2.2.1; have hq3 := (op_blk hW).2.2.2.2.1; have hq4 := (op_blk hW).2.2.2.2.2.1; have hq5 := (op_blk hW).2.2.2.2.2.2; first | (go_simp; done) | (go_simp; with_reducible rfl) | (go_simp; rfl)⟩) hHeld ?_
        try simp only [Act.put, List.setIfInBounds_toArray, List.set_cons_zero, List.set_cons_succ]
        refine take_at (i := 6) (v := _) 78 rfl rfl (by kernel_rfl) (by kernel_rfl) (by kernel_rfl) (fun _ _ _ h => h) (Or.inl ⟨by rfl, fun w' hW => by have hq0 := (op_blk hW).2.1; have hq1 := (op_blk hW).2.2.1; have hq2 := (op_blk hW).2.2.2.1; have hq3 := (op_blk hW).2.2.2.2.1; have hq4 := (op_blk hW).2.2.2.2.2.1; have hq5 := (op_blk hW).2.2.2.2.2.2; first | (go_simp; done) | (go_simp; with_reducible rfl) | (go_simp; rfl)⟩) hHeld ?_
        try simp only [Act.put, List.setIfInBounds_toArray, List.set_cons_zero, List.set_cons_succ]
        have HP0 := Aside0.mk (HA1.out.below (Below.refl _ _).drew)
        clear hHeld
        generalize w4.drew = wd0 at HP0 ⊢
        refine wpAnyH_ready (rs := [3]) (by kernel_rfl) (by simp) ?_
        refine AllReadyH.cons rfl (fun K hK => ?_) AllReadyH.nil
        go_simp
        go_wp2_with (go_at_call 21; refine (A_ready HP0.out.l1 (by have := HK.out; omega) xx.f1.f0 xx.f1.f1 HQ.out).mono ?_; rewrite [HCL.out]; rintro e w5 ⟨rfl, hl5⟩; have HP1 := Aside0.mk (HP0.out.below hl5); clear hl5)
        refine hK.out _ _ (HP1.out.obj (g, .cells (aO xx) 40) (by simp)).1 (fun hHeld => ?_)
        clear hK K
        try simp only [Act.put, List.setIfInBounds_toArray, List.set_cons_zero, List.set_cons_succ]
        refine wpAnyH_ready (rs := [7]) (by kernel_rfl) (by simp) ?_
        refine AllReadyH.cons rfl (fun K hK => ?_) AllReadyH.nil
        go_simp
        go_wp2_with (go_at_call 27; refine (R_ready HP1.out.l2 HOK.out xx.f1.f0 xx.f1.f1 HQ.out).mono ?_; rewrite [HCL.out]; rintro e w6 ⟨rfl, hl6⟩; have HP2 := Aside0.mk (HP1.out.below hl6); clear hl6)
        refine hK.out _ _ (HP2.out.obj (g, .cells (aO xx) 40) (by simp)).1 (fun hHeld => ?_)
        clear hK K
        try simp only [Act.put, List.setIfInBounds_toArray, List.set_cons_zero, List.set_cons_succ]
        refine take_at (i := 8) (v := _) 80 rfl rfl (by kernel_rfl) (by kernel_rfl) (by kernel_rfl) (fun _ _ _ h => h) (Or.inl ⟨by rfl, fun w' hW => by have hq0 := (op_blk hW).2.1; have hq1 := (op_blk hW).2.2.1; have hq2 := (op_blk hW).2.2.2.1; have hq3 := (op_blk hW).2.2.2.2.1; have hq4 := (op_blk hW).2.2.2.2.2.1; have hq5 := (op_blk hW).2.2.2.2.2.2; first | (go_simp; done) | (go_simp; with_reducible rfl) | (go_simp; rfl)⟩) hHeld ?_
        try simp only [Act.put, List.setIfInBounds_toArray, List.set_cons_zero, List.set_cons_succ]
        refine take_at (i := 9) (v := _) 6 rfl rfl (by kernel_rfl) (by kernel_rfl) (by kernel_rfl) (fun _ _ _ h => h) (Or.inl ⟨by rfl, fun w' hW => by have hq0 := (op_blk hW).2.1; have hq1 := (op_blk hW).2.2.1; have hq2 := (op_blk hW).2.2.2.1; have hq3 := (op_blk hW).2.2.2.2.1; have hq4 := (op_blk hW).2.2.2.2.2.1; have hq5 := (op_blk hW).2.2.2.2.2.2; first | (go_simp; done) | (go_simp; with_reducible rfl) | (go_simp; rfl)⟩) hHeld ?_
        try simp only [Act.put, List.setIfInBounds_toArray, List.set_cons_zero, List.set_cons_succ]
        refine wpAnyH_done (by kernel_rfl) ?_ _
        clear hHeld
        go_wp2
        go_ret
        exact ⟨rfl, _, (HP2.out.mono (Nat.le_succ k)).sub (fun p hp => by simp [hp])⟩
      · skip
        by_cases hk4 : xx.f0 = 4
        · have k1 : (xx.f0 == 1) = false := by simp [hk1]
          have k2 : (xx.f0 == 2) = false := by simp [hk2]
          have k3 : (xx.f0 == 3) = false := by simp [hk3]
          have k4 : (xx.f0 == 4) = true := by simp [hk4]
          clear hk1 hk2 hk3 hk4
          obtain ⟨er, hcl⟩ : ∃ er, (pubR a xx.f1.f0 xx.f1.f1 xx.f3.f0 xx.f3.f1).2 = er := ⟨_, rfl⟩
          have HCL := Aside0.mk hcl
          clear hcl
          clear t1 t2
          go_upto_region 12 with fail
          clear t0
          refine wp_region_held_drew (S := fun w' => w'.heap[g]? = some (.cells (aO xx) 40 (0, 0))) (by kernel_rfl) (HA1.out.obj (g, .cells (aO xx) 40) (by simp)).1 (fun hHeld => ?_)
          refine take_at (i := 0) (v := _) 83 rfl rfl (by kernel_rfl) (by kernel_rfl) (by kernel_rfl) (fun _ _ _ h => h) (Or.inl ⟨by rfl, fun w' hW => by have hq0 := (op_blk hW).2.1; have hq1 := (op_blk hW).2.2.1; have hq2 := (op_blk hW).2.2.2.1; have hq3 := (op_blk hW).2.2.2.2.1; have hq4 := (op_blk hW).2.2.2.2.2.1; have hq5 := (op_blk hW).2.2.2.2.2.2; first | (go_simp; done) | (go_simp; with_reducible rfl) | (go_simp; rfl)⟩) hHeld ?_
          try simp only [Act.put, List.setIfInBounds_toArray, List.set_cons_zero, List.set_cons_succ]
          refine take_at (i := 1) (v := _) 84 rfl rfl (by kernel_rfl) (by kernel_rfl) (by kernel_rfl) (fun _ _ _ h => h) (Or.inl ⟨by rfl, fun w' hW => by have hq0 := (op_blk hW).2.1; have hq1 := (op_blk hW).2.2.1; have hq2 := (op_blk hW).2.2.2.1; have hq3 := (op_blk hW).2.2.2.2.1; have hq4 := (op_blk hW).2.2.2.2.2.1; have hq5 := (op_blk hW).2.2.2.2.2.2; first | (go_simp; done) | (go_simp; with_reducible rfl) | (go_simp; rfl)⟩) hHeld ?_
          try simp only [Act.put, List.setIfInBounds_toArray, List.set_cons_zero, List.set_cons_succ]
          refine take_at (i := 2) (v := _) 85 rfl rfl (by kernel_rfl) (by kernel_rfl) (by kernel_rfl) (fun _ _ _ h => h) (Or.inl ⟨by rfl, fun w' hW => by have hq0 := (op_blk hW).2.1; have hq1 := (op_blk hW).2.2.1; have hq2 := (op_blk hW).2.2.2.1; have hq3 := (op_blk hW).2.2.2.2.1; have hq4 := (op_blk hW).2.2.2.2.2.1; have hq5 := (op_blk hW).2.2.2.2.2.2; first | (go_simp; done) | (go_simp; with_reducible rfl) | (go_simp; rfl)⟩) hHeld ?_
          try simp only [Act.put, List.setIfInBounds_toArray, List.set_cons_zero, List.set_cons_succ]
          refine take_at (i := 3) (v := _) 86 rfl rfl (by kernel_rfl) (by kernel_rfl) (by kernel_rfl) (fun _ _ _ h => h) (Or.inl ⟨by rfl, fun w' hW => by have hq0 := (op_blk hW).2.1; have hq1 := (op_blk hW).2.2.1; have hq2 := (op_blk hW).2.2.2.1; have hq3 := (op_blk hW).2.2.2.2.1; have hq4 := (op_blk hW).2.2.2.2.2.1; have hq5 := (op_blk hW).2.2.2.2.2.2; first | (go_simp; done) | (go_simp; with_reducible rfl) | (go_simp; rfl)⟩) hHeld ?_
          try simp only [Act.put, List.setIfInBounds_toArray, List.set_cons_zero, List.set_cons_succ]
          refine take_at (i := 4) (v := _) 87 rfl rfl (by kernel_rfl) (by kernel_rfl) (by kernel_rfl) (fun _ _ _ h => h) (Or.inl ⟨by rfl, fun w' hW => by have hq0 := (op_blk hW).2.1; have hq1 := (op_blk hW).2.2.1; have hq2 := (op_blk hW).2.2.2.1; have hq3 := (op_blk hW).2.2.2.2.1; have hq4 := (op_blk hW).2.2.2.2.2.1; have hq5 := (op_blk hW).2.2.2.2.2.2; first | (go_simp; done) | (go_simp; with_reducible rfl) | (go_simp; rfl)⟩) hHeld ?_
          try simp only [Act.put, List.setIfInBounds_toArray, List.set_cons_zero, List.set_cons_succ]
          refine take_at (i := 6) (v := _) 89 rfl rfl (by kernel_rfl) (by kernel_rfl) (by kernel_rfl) (fun _ _ _ h => h) (Or.inl ⟨by rfl, fun w' hW => by have hq0 := (op_blk hW).2.1; have hq1 := (op_blk hW).2.2.1; have hq2 := (op_blk hW).2.2.2.1; have hq3 := (op_blk hW).2.2.2.2.1; have hq4 := (op_blk hW).2.2.2.2.2.1; have hq5 := (op_blk hW).2.2.2.2.2.2; first | (go_simp; done) | (go_simp; with_reducible rfl) | (go_simp; rfl)⟩) hHeld ?_
          try simp only [Act.put, List.setIfInBounds_toArray, List.set_cons_zero, List.set_cons_succ]
          refine take_at (i := 7) (v := _) 90 rfl rfl (by kernel_rfl) (by kernel_rfl) (by kernel_rfl) (fun _ _ _ h => h) (Or.inl ⟨by rfl, fun w' hW => by have hq0 := (op_blk hW).2.1; have hq1 := (op_blk hW).2.2.1; have hq2 := (op_blk hW).2.2.2.1; have hq3 := (op_blk hW).2.2.2.2.1; have hq4 := (op_blk hW).2.2.2.2.2.1; have hq5 := (op_blk hW).2.2.2.2.2.2; first | (go_simp; done) | (go_simp; with_reducible rfl) | (go_simp; rfl)⟩) hHeld ?_
          try simp only [Act.put, List.setIfInBounds_toArray, List.set_cons_zero, List.set_cons_succ]
          refine take_at (i := 8) (v := _) 91 rfl rfl (by kernel_rfl) (by kernel_rfl) (by kernel_rfl) (fun _ _ _ h => h) (Or.inl ⟨by rfl, fun w' hW => by have hq0 := (op_blk hW).2.1; have hq1 := (op_blk hW).2.2.1; have hq2 := (op_blk hW).2.2.2.1; have hq3 := (op_blk hW).2.2.2.2.1; have hq4 := (op_blk hW).2.2.2.2.2.1; have hq5 := (op_blk hW).2.2.2.2.2.2; first | (go_simp; done) | (go_simp; with_reducible rfl) | (go_simp; rfl)⟩) hHeld ?_
          try simp only [Act.put, List.setIfInBounds_toArray, List.set_cons_zero, List.set_cons_succ]
          refine take_at (i := 9) (v := _) 92 rfl rfl (by kernel_rfl) (by kernel_rfl) (by kernel_rfl) (fun _ _ _ h => h) (Or.inl ⟨by rfl, fun w' hW => by have hq0 := (op_blk hW).2.1; have hq1 := (op_blk hW).2.2.1; have hq2 := (op_blk hW).2.2.2.1; have hq3 := (op_blk hW).2.2.2.2.1; have hq4 := (op_blk hW).2.2.2.2.2.1; have hq5 := (op_blk hW).2.2.2.2.2.2; first | (go_simp; done) | (go_simp; with_reducible rfl) | (go_simp; rfl)⟩) hHeld ?_
          try simp only [Act.put, List.setIfInBounds_toArray, List.set_cons_zero, List.set_cons_succ]
          refine take_at (i := 10) (v := _) 93 rfl rfl (by kernel_rfl) (by kernel_rfl) (by kernel_rfl) (fun _ _ _ h => h) (Or.inl ⟨by rfl, fun w' hW => by have hq0 := (op_blk hW).2.1; have hq1 := (op_blk hW).2.2.1; have hq2 := (op_blk hW).2.2.2.1; have hq3 := (op_blk hW).2.2.2.2.1; have hq4 := (op_blk hW).2.2.2.2.2.1; have hq5 := (op_blk hW).2.2.2.2.2.2; first | (go_simp; done) | (go_simp; with_reducible rfl) | (go_simp; rfl)⟩) hHeld ?_
          try simp only [Act.put, List.setIfInBounds_toArray, List.set_cons_zero, List.set_cons_succ]
          have HP0 := Aside0.mk (HA1.out.below (Below.refl _ _).drew)
          clear hHeld
          generalize w4.drew = wd0 at HP0 ⊢
          refine wpAnyH_ready (rs := [5]) (by kernel_rfl) (by simp) ?_
          refine AllReadyH.cons rfl (fun K hK => ?_) AllReadyH.nil
          go_simp
          go_wp2_with (go_at_call 20; refine (A_pub HP0.out.l1 (by have := HK.out; omega) xx.f1.f0 xx.f1.f1 xx.f3.f0 xx.f3.f1 HQ.out).mono ?_; rewrite [HCL.out]; rintro e w5 ⟨rfl, hl5, hf5⟩; have HP1 := Aside0.mk (HP0.out.call1 hl5 hf5); clear hl5 hf5)
          refine hK.out _ _ (HP1.out.obj (g, .cells (aO xx) 40) (by simp)).1 (fun hHeld => ?_)
          clear hK K
          try simp only [Act.put, List.setIfInBounds_toArray, List.set_cons_zero, List.set_cons_succ]
          refine wpAnyH_ready (rs := [11]) (by kernel_rfl) (by simp) ?_
          refine AllReadyH.cons rfl (fun K hK => ?_) AllReadyH.nil
          go_simp
          go_wp2_with (go_at_call 28; refine (R_pub HP1.out.l2 HOK.out xx.f1.f0 xx.f1.f1 xx.f3.f0 xx.f3.f1 HQ.out).mono ?_; rewrite [HCL.out]; rintro e w6 ⟨rfl, hl6, hf6⟩; have HP2 := Aside0.mk (HP1.out.call2 hl6 hf6); clear hl6 hf6)
          refine hK.out _ _ (HP2.out.obj (g, .cells (aO xx) 40) (by simp)).1 (fun hHeld => ?_)
          clear hK K
          try simp only [Act.put, List.setIfInBounds_toArray, List.set_cons_zero, List.set_cons_succ]
          refine take_at (i := 12) (v := _) 95 rfl rfl (by kernel_rfl) (by kernel_rfl) (by kernel_rfl) (fun _ _ _ h => h) (Or.inl ⟨by rfl, fun w' hW => by have hq0 := (op_blk hW).2.1; have hq1 := (op_blk hW).2.2.1; have hq2 := (op_blk hW).2.2.2.1; have hq3 := (op_blk hW).2.2.2.2.1; have hq4 := (op_blk hW).2.2.2.2.2.1; have hq5 := (op_blk hW).2.2.2.2.2.2; first | (go_simp; done) | (go_simp; with_reducible rfl) | (go_simp; rfl)⟩) hHeld ?_
          try simp only [Act.put, List.setIfInBounds_toArray, List.set_cons_zero, List.set_cons_succ]
          refine take_at (i := 13) (v := _) 6 rfl rfl (by kernel_rfl) (by kernel_rfl) (by kernel_rfl) (fun _ _ _ h => h) (Or.inl ⟨by rfl, fun w' hW => by have hq0 := (op_blk hW).2.1; have hq1 := (op_blk hW).2.2.1; have hq2 := (op_blk hW).2.2.2.1; have hq3 := (op_blk hW).2.2.2.2.1; have hq4 := (op_blk hW).2.2.2.2.2.1; have hq5 := (op_blk hW).2.2.2.2.2.2; first | (go_simp; done) | (go_simp; with_reducible rfl) | (go_simp; rfl)⟩) hHeld ?_
          try simp only [Act.put, List.setIfInBounds_toArray, List.set_cons_zero, List.set_cons_succ]
          refine wpAnyH_done (by kernel_rfl) ?_ _
          clear hHeld
          go_wp2
          go_ret
          exact ⟨rfl, _, HP2.out.sub (fun p hp => by simp [hp])⟩
        · skip
          by_cases hk5 : xx.f0 = 5
          · have k1 : (xx.f0 == 1) = false := by simp [hk1]
            have k2 : (xx.f0 == 2) = false := by simp [hk2]
            have k3 : (xx.f0 == 3) = false := by simp [hk3]
            have k4 : (xx.f0 == 4) = false := by simp [hk4]
            have k5 : (xx.f0 == 5) = true := by simp [hk5]
            clear hk1 hk2 hk3 hk4 hk5
            obtain ⟨sx, sy, tq, te, sb, hcl⟩ := firstR_shape a
            have HCL := Aside0.mk hcl
            clear hcl
            go_upto_region 15 with (go_at_call 23; refine (A_first HA1.out.l1 (by have := HK.out; omega)).mono ?_; rewrite [HCL.out]; rintro e w5 ⟨rfl, hl5⟩; have HA2 := Aside0.mk ((HA1.out.below hl5).alloc2 (.cells (aStamp sx sy) 38) (.cells (aTick tq te) 34)); clear hl5)
            clear t0 t1 t2
            generalize (w5.alloc (.cells (aStamp sx sy) 38)).alloc (.cells (aTick tq te) 34) = w6 at HA2 ⊢
            generalize w5.heap.size + 1 = g4 at HA2 ⊢
            generalize w5.heap.size = g3 at HA2 ⊢
            go_upto_region 16 with (go_at_call 29; refine (R_first HA2.out.l2).mono ?_; rewrite [HCL.out]; rintro e w7 ⟨rfl, hl7, hf7⟩; have HA3 := Aside0.mk ((HA2.out.call2 hl7 hf7).alloc2 (.cells (aStamp sx sy) 38) (.cells (aTick tq te) 34)); clear hl7 hf7)
            generalize (w7.alloc (.cells (aStamp sx sy) 38)).alloc (.cells (aTick tq te) 34) = w8 at HA3 ⊢
            generalize w7.heap.size + 1 = g6 at HA3 ⊢
            generalize w7.heap.size = g5 at HA3 ⊢
            have s0 : w8.cell? ⟨g3, 0, none⟩ = some (.int .i64 sx) := (HA3.out.ptr (g := g3) (C := aStamp sx sy) (t := 38) (by simp) 0).1
            have s1 : w8.cell? ⟨g3, 1, none⟩ = some (.int .i64 sy) := (HA3.out.ptr (g := g3) (C := aStamp sx sy) (t := 38) (by simp) 1).1
            have s2 : w8.cell? ⟨g5, 0, none⟩ = some (.int .i64 sx) := (HA3.out.ptr (g := g5) (C := aStamp sx sy) (t := 38) (by simp) 0).1
            have s3 : w8.cell? ⟨g5, 1, none⟩ = some (.int .i64 sy) := (HA3.out.ptr (g := g5) (C := aStamp sx sy) (t := 38) (by simp) 1).1
            have s4 : w8.cell? ⟨g4, 0, none⟩ = some (.int .u64 tq) := (HA3.out.ptr (g := g4) (C := aTick tq te) (t := 34) (by simp) 0).1
            have s5 : w8.cell? ⟨g4, 1, none⟩ = some (.int .u64 te) := (HA3.out.ptr (g := g4) (C := aTick tq te) (t := 34) (by simp) 1).1
            have s6 : w8.cell? ⟨g6, 0, none⟩ = some (.int .u64 tq) := (HA3.out.ptr (g := g6) (C := aTick tq te) (t := 34) (by simp) 0).1
            have s7 : w8.cell? ⟨g6, 1, none⟩ = some (.int .u64 te) := (HA3.out.ptr (g := g6) (C := aTick tq te) (t := 34) (by simp) 1).1
            cases sb
            · go_wp2
              go_ret
              exact ⟨rfl, _, (HA3.out.mono (Nat.le_succ k)).sub (fun p hp => by simp [hp])⟩
            · go_wp2
              go_ret
              exact ⟨rfl, _, (HA3.out.mono (Nat.le_succ k)).sub (fun p hp => by simp [hp])⟩
          · skip
            by_cases hk6 : xx.f0 = 6
            · have k1 : (xx.f0 == 1) = false := by simp [hk1]
              have k2 : (xx.f0 == 2) = false := by simp [hk2]
              have k3 : (xx.f0 == 3) = false := by simp [hk3]
              have k4 : (xx.f0 == 4) = false := by simp [hk4]
              have k5 : (xx.f0 == 5) = false := by simp [hk5]
              have k6 : (xx.f0 == 6) = true := by simp [hk6]
              clear hk1 hk2 hk3 hk4 hk5 hk6
              obtain ⟨sn, sg, tq, te, er, hcl⟩ := takeR_sh a
              have HCL := Aside0.mk hcl
              clear hcl
              go_upto_region 19 with (go_at_call 17; refine (A_take HA1.out.l1 (by have := HK.out; omega)).mono ?_; rewrite [HCL.out]; rintro e w5 ⟨rfl, hl5, hf5⟩; have HA2 := Aside0.mk ((HA1.out.call1 hl5 hf5).alloc2 (.cells (aSlot sn sg) 36) (.cells (aTick tq te) 34)); clear hl5 hf5)
              clear t0 t1 t2
              generalize (w5.alloc (.cells (aSlot sn sg) 36)).alloc (.cells (aTick tq te) 34) = w6 at HA2 ⊢
              generalize w5.heap.size + 1 = g4 at HA2 ⊢
              generalize w5.heap.size = g3 at HA2 ⊢
              go_upto_region 20 with (go_at_call 30; refine (R_take HA2.out.l2).mono ?_; rewrite [HCL.out]; rintro e w7 ⟨rfl, hl7, hf7⟩; have HA3 := Aside0.mk ((HA2.out.call2 hl7 hf7).alloc2 (.cells (aSlot sn sg) 36) (.cells (aTick tq te) 34)); clear hl7 hf7)
              generalize (w7.alloc (.cells (aSlot sn sg) 36)).alloc (.cells (aTick tq te) 34) = w8 at HA3 ⊢
              generalize w7.heap.size + 1 = g6 at HA3 ⊢
              generalize w7.heap.size = g5 at HA3 ⊢
              have s0 : w8.cell? ⟨g3, 0, none⟩ = some (.int .i64 sn) := (HA3.out.ptr (g := g3) (C := aSlot sn sg) (t := 36) (by simp) 0).1
              have s1 : w8.cell? ⟨g3, 1, none⟩ = some (.int .u64 sg) := (HA3.out.ptr (g := g3) (C := aSlot sn sg) (t := 36) (by simp) 1).1
              have s2 : w8.cell? ⟨g5, 0, none⟩ = some (.int .i64 sn) := (HA3.out.ptr (g := g5) (C := aSlot sn sg) (t := 36) (by simp) 0).1
              have s3 : w8.cell? ⟨g5, 1, none⟩ = some (.int .u64 sg) := (HA3.out.ptr (g := g5) (C := aSlot sn sg) (t := 36) (by simp) 1).1
              have s4 : w8.cell? ⟨g4, 0, none⟩ = some (.int .u64 tq) := (HA3.out.ptr (g := g4) (C := aTick tq te) (t := 34) (by simp) 0).1
              have s5 : w8.cell? ⟨g4, 1, none⟩ = some (.int .u64 te) := (HA3.out.ptr (g := g4) (C := aTick tq te) (t := 34) (by simp) 1).1
              have s6 : w8.cell? ⟨g6, 0, none⟩ = some (.int .u64 tq) := (HA3.out.ptr (g := g6) (C := aTick tq te) (t := 34) (by simp) 0).1
              have s7 : w8.cell? ⟨g6, 1, none⟩ = some (.int .u64 te) := (HA3.out.ptr (g := g6) (C := aTick tq te) (t := 34) (by simp) 1).1
              go_wp2
              go_ret
              exact ⟨rfl, _, HA3.out.sub (fun p hp => by simp [hp])⟩
            · skip
              by_cases hk7 : xx.f0 = 7
              · have k1 : (xx.f0 == 1) = false := by simp [hk1]
                have k2 : (xx.f0 == 2) = false := by simp [hk2]
                have k3 : (xx.f0 == 3) = false := by simp [hk3]
                have k4 : (xx.f0 == 4) = false := by simp [hk4]
                have k5 : (xx.f0 == 5) = false := by simp [hk5]
                have k6 : (xx.f0 == 6) = false := by simp [hk6]
                have k7 : (xx.f0 == 7) = true := by simp [hk7]
                clear hk1 hk2 hk3 hk4 hk5 hk6 hk7
                obtain ⟨sn, sg, sb, er, hcl⟩ := retR_sh a xx.f1.f0 xx.f1.f1
                have HCL := Aside0.mk hcl
                clear hcl
                go_upto_region 23 with (go_at_call 19; refine (A_ret HA1.out.l1 (by have := HK.out; omega) xx.f1.f0 xx.f1.f1 HQ.out).mono ?_; rewrite [HCL.out]; rintro e w5 ⟨rfl, hl5, hf5⟩; have HA2 := Aside0.mk ((HA1.out.call1 hl5 hf5).alloc (.cells (aSlot sn sg) 36)); clear hl5 hf5)
                clear t0 t1 t2
                generalize w5.alloc (.cells (aSlot sn sg) 36) = w6 at HA2 ⊢
                generalize w5.heap.size = g3 at HA2 ⊢
                have u1 : w6.cell? ⟨g, 1, none⟩ = some (.int .u64 xx.f1.f0) := (HA2.out.ptr (g := g) (C := aO xx) (t := 40) (by simp) 1).1
                have u2 : w6.cell? ⟨g, 2, none⟩ = some (.int .u64 xx.f1.f1) := (HA2.out.ptr (g := g) (C := aO xx) (t := 40) (by simp) 2).1
                go_upto_region 24 with (go_at_call 31; refine (R_ret HA2.out.l2 HOK.out xx.f1.f0 xx.f1.f1 HQ.out).mono ?_; rewrite [HCL.out]; rintro e w7 ⟨rfl, hl7, hf7⟩; have HA3 := Aside0.mk ((HA2.out.call2 hl7 hf7).alloc (.cells (aSlot sn sg) 36)); clear hl7 hf7)
                clear u1 u2
                generalize w7.alloc (.cells (aSlot sn sg) 36) = w8 at HA3 ⊢
                generalize w7.heap.size = g5 at HA3 ⊢
                have s0 : w8.cell? ⟨g3, 0, none⟩ = some (.int .i64 sn) := (HA3.out.ptr (g := g3) (C := aSlot sn sg) (t := 36) (by simp) 0).1
                have s1 : w8.cell? ⟨g3, 1, none⟩ = some (.int .u64 sg) := (HA3.out.ptr (g := g3) (C := aSlot sn sg) (t := 36) (by simp) 1).1
                have s2 : w8.cell? ⟨g5, 0, none⟩ = some (.int .i64 sn) := (HA3.out.ptr (g := g5) (C := aSlot sn sg) (t := 36) (by simp) 0).1
                have s3 : w8.cell? ⟨g5, 1, none⟩ = some (.int .u64 sg) := (HA3.out.ptr (g := g5) (C := aSlot sn sg) (t := 36) (by simp) 1).1
                cases sb
                · go_wp2
                  go_ret
                  exact ⟨rfl, _, HA3.out.sub (fun p hp => by simp [hp])⟩
                · go_wp2
                  go_ret
                  exact ⟨rfl, _, HA3.out.sub (fun p hp => by simp [hp])⟩
              · skip
                by_cases hk8 : xx.f0 = 8
                · have k1 : (xx.f0 == 1) = false := by simp [hk1]
                  have k2 : (xx.f0 == 2) = false := by simp [hk2]
                  have k3 : (xx.f0 == 3) = false := by simp [hk3]
                  have k4 : (xx.f0 == 4) = false := by simp [hk4]
                  have k5 : (xx.f0 == 5) = false := by simp [hk5]
                  have k6 : (xx.f0 == 6) = false := by simp [hk6]
                  have k7 : (xx.f0 == 7) = false := by simp [hk7]
                  have k8 : (xx.f0 == 8) = true := by simp [hk8]
                  clear hk1 hk2 hk3 hk4 hk5 hk6 hk7 hk8
                  obtain ⟨er, hcl⟩ : ∃ er, (resetR a).2 = er := ⟨_, rfl⟩
                  obtain ⟨ls, hls⟩ : ∃ ls, resetL a = ls := ⟨_, rfl⟩
                  have hlen : ls.length < 1000000 := by have h3 := HOK.out.cr.1; have h4 := HOK.out.cr.2; rw [← hls]; unfold resetL; split; (unfold slotsA; unfold AS.total at h3; simp only [List.length_append, List.length_map]; omega); simp
                  have HCL := Aside0.mk hcl
                  have HLS := Aside0.mk hls
                  have HLE := Aside0.mk hlen
                  clear hcl hls hlen t1 t2
                  go_upto_region 27 with (go_at_call 18; refine (A_reset HA1.out.l1 (by have := HK.out; omega)).mono ?_; rewrite [HCL.out, HLS.out]; rintro e w5 ⟨rA, rc, rfl, hrc, hsl, hge, hl5, hf5⟩; have HA2 := Aside0.mk (HA1.out.call1 hl5 hf5); have HS := Aside0.mk (And.intro hrc (And.intro hsl hge)); clear hrc hsl hge hl5 hf5)
                  clear t0
                  go_upto_region 28 with (go_at_call 32; refine (R_reset HA2.out.l2 HOK.out).mono ?_; rewrite [HCL.out, HLS.out]; rintro e w6 ⟨rA2, rc2, rfl, hrc, hsl, hl6, hf6⟩; have HA3 := Aside0.mk (HA2.out.call2 hl6 hf6); have HS1 := Aside0.mk (HS.out.2.1.farR HS.out.2.2 HA1.out.l2.lt HA1.out.l2.lt hf6); have HS2 := Aside0.mk (And.intro hrc hsl); clear hrc hsl hl6 hf6)
                  go_wp2_with (go_at_call 33; refine (SameSlots_calls rA rA2 rc rc2 ls _ HS1.out HS2.out.2 HLE.out HS.out.1 HS2.out.1).mono ?_; rintro e w7 ⟨rfl, nd, rfl⟩; have HA4 := Aside0.mk (HA3.out.below (pw_below_drewN (Below.refl _ _) nd)))
                  go_ret
                  exact ⟨rfl, _, HA4.out.sub (fun p hp => by simp [hp])⟩
                · skip
                  have k1 : (xx.f0 == 1) = false := by simp [hk1]
                  have k2 : (xx.f0 == 2) = false := by simp [hk2]
                  have k3 : (xx.f0 == 3) = false := by simp [hk3]
                  have k4 : (xx.f0 == 4) = false := by simp [hk4]
                  have k5 : (xx.f0 == 5) = false := by simp [hk5]
                  have k6 : (xx.f0 == 6) = false := by simp [hk6]
                  have k7 : (xx.f0 == 7) = false := by simp [hk7]
                  have k8 : (xx.f0 == 8) = false := by simp [hk8]
                  clear hk1 hk2 hk3 hk4 hk5 hk6 hk7 hk8
                  clear t1 t2
                  go_wp2
                  go_ret
                  exact ⟨rfl, _, (HA1.out.mono (Nat.le_succ k)).sub (fun p hp => by simp [hp])⟩
end Go.Proofs.Ytglekbbdbnpohaa.QLn
/- Lane: LaneRuns: the walk. Written by a program of this repo (tools/gen_lruns.py). -/
namespace Go.Proofs.Ytglekbbdbnpohaa.QLn
open Go.RowKit Go.Proofs.YtglekbbdbnpohaaW.PrintWords Go.Proofs.YtglekbbdbnpohaaW.PrintLast Go.Proofs.YtglekbbdbnpohaaW.PrintMore
set_option linter.unusedVariables false
set_option linter.unusedSimpArgs false
theorem stateR_shape (a : AS) : ∃ v1 v2 v3 v4 v5 v6 : Int, stateR a = aSt v1 v2 v3 v4 v5 v6 := ⟨_, _, _, _, _, _, rfl⟩
/-- What the loop of LaneRuns keeps. -/
def RR (W : World) (b m rb B : Nat) (j : Nat) (wr : World) : Prop := ∃ a, Ar W b m a rb B a j [] wr
set_option maxRecDepth 100000 in
set_option maxHeartbeats 8000000 in
theorem LaneRuns_hand (a0 : Int) (a1 : Bool) (a2 : Int) (A3 : Option Addr) (c3 : Nat) (l3 : List S40) (W : World) (hr3 : Kd.C k40 W A3 l3.length l3) (hc3 : l3.length ≤ c3) (h0 : (Lit.int .i64 a0).wf = true) (_ : True) (h2 : (Lit.int .u64 a2).wf = true) (h3 : l3.length * 56 ≤ 140737488351232 ∧ ∀ x ∈ l3, OpOk2 x) :
    Calls Try.prog 3 #[.int .i64 a0, .bool a1, .int .u64 a2, .slice A3 l3.length c3] W fun e w' => e = .returned (.bool true) ∧ Below W.heap.size W w' := by
  have HR := Aside0.mk hr3
  have H1 := Aside0.mk (c_u64 h2)
  have H2 := Aside0.mk h3.2
  clear hr3 h2 h3 h0
  by_cases hcr : 1 ≤ a0 ∧ a0 ≤ 64
  · have HC1 := Aside0.mk hcr.1
    have HC2 := Aside0.mk hcr.2
    clear hcr
    go_enter Try.func3, Try.ntmps3
    go_upto_region 3 with (go_at_call 9; refine (awake_calls _).mono ?_; rintro e w1 ⟨rfl, hb1⟩; have HB1 := Aside0.mk hb1; clear hb1)
    go_upto_region 4 with (go_at_call 10; refine (A_new a0 a1 a2 HC1.out HC2.out H1.out _).mono ?_; rintro e w2 ⟨rfl, hb2, hl2⟩; have HB2 := Aside0.mk (And.intro hb2 hl2); clear hb2 hl2)
    go_upto_region 5 with (go_at_call 11; refine (R_new a0 a1 a2 HC1.out HC2.out H1.out _).mono ?_; rintro e w3 ⟨rfl, hb3, hl3⟩; have HB3 := Aside0.mk (And.intro hb3 hl3); clear hb3 hl3)
    have HOI : Aside0 (RR W (w1.heap.size + 1) w1.heap.size w2.heap.size (w2.heap.size + 1) 0 w3) := by
      have h1 := HB1.out
      have h2 := HB2.out
      have h3 := HB3.out
      have hlt := h2.2.lt
      have hs1 := h1.size
      have hs2 := h2.1.size
      exact ⟨⟨_, ⟨h2.2.below h3.1, h3.2, (h1.trans (h2.1.mono hs1)).trans (h3.1.mono (Nat.le_trans hs1 hs2)), by omega, by omega, fun p hp => by cases hp⟩⟩⟩
    clear HB1 HB2 HB3
    generalize w2.heap.size + 1 = B at HOI ⊢
    generalize w2.heap.size = rb at HOI ⊢
    generalize hm : w1.heap.size = m at HOI ⊢
    clear hm
    generalize m + 1 = b at HOI ⊢
    go_wp2
    go_loopw [13] (fun i wr => ∃ j : Nat, j ≤ 60 ∧ i = .int .i64 (j : Int) ∧ Aside0 (RR W b m rb B j wr)) (fun i _ => 60 - (intOf i).toNat)
    case atStart => exact ⟨0, by omega, rfl, HOI⟩
    case round =>
      clear HOI
      obtain ⟨j, hj60, rfl, HI⟩ := hrel
      by_cases hgo : j < l3.length ∧ j < 60
      · obtain ⟨a, hA⟩ := HI.out
        have HA := Aside0.mk hA
        clear hA HI
        have d1 : decide ((j : Int) < (l3.length : Int)) = true := decide_eq_true (by omega)
        have d1' : decide (j < l3.length) = true := decide_eq_true hgo.1
        have d2 : decide ((j : Int) < 60) = true := decide_eq_true (by omega)
        have d2' : decide (j < 60) = true := decide_eq_true hgo.2
        have HJ : Aside0 (j + 1 ≤ 60) := ⟨hgo.2⟩
        have hx0 : (0 : Int) ≤ (j : Int) := by omega
        have hx1 : (j : Int) < (l3.length : Int) := by omega
        obtain ⟨ad, rfl, p0, p1, p2, p3, p4, p5, p6⟩ := at_T40 HR.out (j : Int) hx0 hx1
        have HOK := Aside0.mk (H2.out _ (c_mem hgo.1))
        obtain ⟨xx, hxx⟩ : ∃ xx, rd_T40 l3 (j : Int) = xx := ⟨_, rfl⟩
        rw [hxx, Int.toNat_natCast] at p0 p1 p2 p3 p4 p5 p6
        rw [hxx] at HOK
        have q0 := pw_cell_below HA.out.be p0
        have q1 := pw_cell_below HA.out.be p1
        have q2 := pw_cell_below HA.out.be p2
        have q3 := pw_cell_below HA.out.be p3
        have q4 := pw_cell_below HA.out.be p4
        have q5 := pw_cell_below HA.out.be p5
        have q6 := pw_cell_below HA.out.be p6
        clear p0 p1 p2 p3 p4 p5 p6
        have HQ : Aside0 (U64 xx.f1.f0) := ⟨c_u64 HOK.out.2.1.1⟩
        have hw : wrap64 ((j : Int) + 1) = (j : Int) + 1 := by unfold wrap64; omega
        have HH : Aside0 (60 - ((j : Int) + 1).toNat < 60 - ((j : Int)).toNat) := ⟨by omega⟩
        have HK : Aside0 (j + 2 < 1000000) := ⟨by omega⟩
        clear hxx hgo
        go_wp2_with (first
          | (go_at_call 12; refine (step_calls xx HQ.out _ HA.out HK.out).mono ?_; rintro e w5 ⟨rfl, a5, hA5⟩; obtain ⟨v1, v2, v3, v4, v5, v6, hst⟩ := stateR_shape a5; have HA5 := Aside0.mk hA5; have HST := Aside0.mk hst; clear hA5 hst)
          | (go_at_call 13; refine (A_state HA5.out.l1 (by have := HK.out; omega)).mono ?_; rewrite [HST.out]; rintro e w6 ⟨rfl, hl6⟩; have HA6 := Aside0.mk (HA5.out.below hl6); clear hl6)
          | (go_at_call 14; refine (R_state HA6.out.l2).mono ?_; rewrite [HST.out]; rintro e w7 ⟨rfl, hl7, hf7⟩; have HA7 := Aside0.mk (HA6.out.call2 hl7 hf7); clear hl7 hf7))
        go_roundw
        case rel => exact ⟨j + 1, HJ.out, (by first | rfl | (rw [hw]; rfl)), ⟨⟨a5, HA7.out⟩⟩⟩
        case measure => first | exact HH.out | (simp only [hw]; exact HH.out)
      · obtain ⟨a, hA⟩ := HI.out
        have HBE := Aside0.mk hA.be
        clear hA HI
        by_cases hl : j < l3.length
        · have d1 : decide ((j : Int) < (l3.length : Int)) = true := decide_eq_true (by omega)
          have d1' : decide (j < l3.length) = true := decide_eq_true hl
          have d2 : decide ((j : Int) < 60) = false := decide_eq_false (by omega)
          have d2' : decide (j < 60) = false := decide_eq_false (by omega)
          clear hgo hl
          go_wp2
          go_ret
          exact ⟨rfl, HBE.out⟩
        · have d1 : decide ((j : Int) < (l3.length : Int)) = false := decide_eq_false (by omega)
          have d1' : decide (j < l3.length) = false := decide_eq_false hl
          clear hgo hl
          go_wp2
          go_ret
          exact ⟨rfl, HBE.out⟩
  · have HBAD : Aside0 (a0 < 1 ∨ 64 < a0) := ⟨by omega⟩
    clear hcr
    go_enter Try.func3, Try.ntmps3
    go_upto_region 3 with (go_at_call 9; refine (awake_calls _).mono ?_; rintro e w1 ⟨rfl, hb1⟩; have HB1 := Aside0.mk hb1; clear hb1)
    go_upto_region 4 with (go_at_call 10; refine (New_bad a0 a1 a2 HBAD.out _).mono ?_; rintro e w2 ⟨rfl, hb2⟩; have HB2 := Aside0.mk (HB1.out.trans (hb2.mono HB1.out.size)); clear hb2)
    go_upto_region 5 with (go_at_call 11; refine (RNew_bad a0 a1 a2 HBAD.out _).mono ?_; rintro e w3 ⟨rfl, hb3⟩; have HB3 := Aside0.mk (HB2.out.trans (hb3.mono HB2.out.size)); clear hb3)
    clear HB1 HB2
    go_wp2
    go_loopw [13] (fun i wr => i = .int .i64 0 ∧ Aside0 (Below W.heap.size W wr)) (fun i _ => 0)
    case atStart => exact ⟨rfl, HB3⟩
    case round =>
      clear HB3
      obtain ⟨rfl, HI⟩ := hrel
      by_cases hl : 0 < l3.length
      · have d1 : decide ((0 : Int) < (l3.length : Int)) = true := decide_eq_true (by omega)
        have d1' : decide (0 < l3.length) = true := decide_eq_true hl
        clear hl
        go_wp2
        go_ret
        exact ⟨rfl, HI.out⟩
      · have d1 : decide ((0 : Int) < (l3.length : Int)) = false := decide_eq_false (by omega)
        have d1' : decide (0 < l3.length) = false := decide_eq_false hl
        have d1'' : l3.length = 0 := by omega
        clear hl
        go_wp2
        go_ret
        exact ⟨rfl, HI.out⟩
end Go.Proofs.Ytglekbbdbnpohaa.QLn
