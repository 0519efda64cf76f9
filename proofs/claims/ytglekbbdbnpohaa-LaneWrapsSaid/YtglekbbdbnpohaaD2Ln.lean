/- Lane: LaneWraps: a call of two lanes whose numbers are moved. Written by a program of this repo (tools/gen_lmoved.py). -/
import Derived.Test.YtglekbbdbnpohaaC2Ln
namespace Go.Proofs.Ytglekbbdbnpohaa.QLn
open Go.RowKit Go.Proofs.YtglekbbdbnpohaaW.PrintWords Go.Proofs.YtglekbbdbnpohaaW.PrintLast Go.Proofs.YtglekbbdbnpohaaW.PrintMore
set_option linter.unusedVariables false
set_option linter.unusedSimpArgs false
theorem Aw2.sub {w0 w : World} {b m b' m' k : Nat} {a a' : AS} {L L' : List (Nat × Obj)} (h : Aw2 w0 b m a b' m' a' k L' w) (hs : ∀ p ∈ L, p ∈ L') : Aw2 w0 b m a b' m' a' k L w := ⟨h.l1, h.l2, h.be, h.lo, h.ne, fun p hp => h.obj p (hs p hp)⟩
theorem Aw2.alloc2 {w0 w : World} {b m b' m' k : Nat} {a a' : AS} {L : List (Nat × Obj)} (h : Aw2 w0 b m a b' m' a' k L w) (o o' : Obj) : Aw2 w0 b m a b' m' a' k ((w.heap.size + 1, o') :: (w.heap.size, o) :: L) ((w.alloc o).alloc o') := by
  have j := (h.alloc o).alloc o'
  have e : (w.alloc o).heap.size = w.heap.size + 1 := by show (w.heap.push o).size = _; exact Array.size_push _
  rw [e] at j
  exact j
theorem add_blk (ad : Addr) (j : Nat) : (ad.add j).block = ad.block := by unfold Addr.add; split <;> rfl
theorem SlotsAt.far {w w' : World} {A : Option Addr} {l : List (Int × Int)} {b m n0 : Nat} (h : SlotsAt w A l) (hb : ∀ ad, A = some ad → n0 ≤ ad.block) (h1 : b < n0) (h2 : m < n0) (j : Far b m w w') : SlotsAt w' A l := fun i p hp => by
  obtain ⟨ad, e, q1, q2⟩ := h i p hp
  have hn := hb ad e
  have hlt : ad.block < w.heap.size := by
    rcases Nat.lt_or_ge ad.block w.heap.size with h | h
    · exact h
    · exfalso
      have : w.heap[(ad.add (i * 2)).block]? = none := Array.getElem?_eq_none (by rw [add_blk]; exact h)
      simp only [World.cell?, this] at q1
      cases q1
  have hk : w'.heap[ad.block]? = w.heap[ad.block]? := j.block ad.block hlt (by omega) (by omega)
  refine ⟨ad, e, ?_, ?_⟩
  · rw [← q1]; simp only [World.cell?]; rw [add_blk, hk]
  · rw [← q2]; simp only [World.cell?]; rw [add_blk, hk]
set_option maxRecDepth 100000 in
set_option maxHeartbeats 8000000 in
theorem moved_calls {W0 : World} {b m b' m' k : Nat} {a : AS} {L : List (Nat × Obj)} (st : Int) (xx y : S40) (hq : U64 xx.f1.f0) (hy : y.f1.f0 = mq st xx.f1.f0 ∧ y.f1.f1 = xx.f1.f1) (h0 : a.start = 0) (w : World) (hA : Aw2 W0 b m a b' m' (mv st a) k L w) (hk : k + 2 < 1000000) :
    Calls Try.prog 22 #[.pointer (some ⟨b, 0, none⟩), .pointer (some ⟨b', 0, none⟩), .agg (aO xx), .agg (aO y), .int .u64 st] w fun e w' => e = .returned (.bool true) ∧ ∃ a1, a1.start = 0 ∧ Aw2 W0 b m a1 b' m' (mv st a1) (k + 2) L w' := by
  have HQ := Aside0.mk hq
  have HQy : Aside0 (U64 y.f1.f0) := ⟨by rw [hy.1]; exact mq_u64 _ _⟩
  have HY := Aside0.mk hy
  have H0 := Aside0.mk h0
  have HA := Aside0.mk hA
  have HK := Aside0.mk hk
  clear hq hy h0 hA hk
  go_enter Try.func22, Try.ntmps22
  go_upto_region 1 with fail
  have HA1 := Aside0.mk (HA.out.alloc2 (.cells (aO xx) 40) (.cells (aO y) 40))
  clear HA
  generalize (w.alloc (.cells (aO xx) 40)).alloc (.cells (aO y) 40) = w4 at HA1 ⊢
  generalize w.heap.size + 1 = g2 at HA1 ⊢
  generalize w.heap.size = g at HA1 ⊢
  have t0 : w4.cell? ⟨g, 0, none⟩ = some (.int .i64 xx.f0) := (HA1.out.ptr (g := g) (C := aO xx) (t := 40) (by simp) 0).1
  have t1 : w4.cell? ⟨g, 1, none⟩ = some (.int .u64 xx.f1.f0) := (HA1.out.ptr (g := g) (C := aO xx) (t := 40) (by simp) 1).1
  have t2 : w4.cell? ⟨g, 2, none⟩ = some (.int .u64 xx.f1.f1) := (HA1.out.ptr (g := g) (C := aO xx) (t := 40) (by simp) 2).1
  by_cases hk1 : xx.f0 = 1
  · have k1 : (xx.f0 == 1) = true := by simp [hk1]
    clear hk1
    obtain ⟨⟨h1, he⟩, hc⟩ := mv_claim H0.out st
    have H1 := Aside0.mk h1
    have HE := Aside0.mk he
    clear h1 he
    rcases hc with ⟨tq, tq', te, hcl, hcl', hm⟩ | ⟨hcl, hcl'⟩
    · have HCL := Aside0.mk (And.intro hcl hcl')
      clear hcl hcl'
      have hm' : (IntKind.u64.wrap (tq + st) == tq') = true := by unfold mq at hm; rw [hm]; simp
      clear hm
      go_upto_region 7 with (go_at_call 15; refine (A_claim HA1.out.l1).mono ?_; rewrite [HCL.out.1]; rintro e w5 ⟨rfl, hl5, hf5⟩; have HA2 := Aside0.mk ((HA1.out.call1 hl5 hf5).alloc (.cells (aTick tq te) 34)); clear hl5 hf5)
      clear t0 t1 t2
      generalize w5.alloc (.cells (aTick tq te) 34) = w6 at HA2 ⊢
      generalize w5.heap.size = g3 at HA2 ⊢
      go_upto_region 8 with (go_at_call 15; refine (A_claim HA2.out.l2).mono ?_; rewrite [HCL.out.2]; rintro e w7 ⟨rfl, hl7, hf7⟩; have HA3 := Aside0.mk ((HA2.out.call2 hl7 hf7).alloc (.cells (aTick tq' te) 34)); clear hl7 hf7)
      generalize w7.alloc (.cells (aTick tq' te) 34) = w8 at HA3 ⊢
      generalize w7.heap.size = g4 at HA3 ⊢
      have s0 : w8.cell? ⟨g3, 0, none⟩ = some (.int .u64 tq) := (HA3.out.ptr (g := g3) (C := aTick tq te) (t := 34) (by simp) 0).1
      have s1 : w8.cell? ⟨g3, 1, none⟩ = some (.int .u64 te) := (HA3.out.ptr (g := g3) (C := aTick tq te) (t := 34) (by simp) 1).1
      have s2 : w8.cell? ⟨g4, 0, none⟩ = some (.int .u64 tq') := (HA3.out.ptr (g := g4) (C := aTick tq' te) (t := 34) (by simp) 0).1
      have s3 : w8.cell? ⟨g4, 1, none⟩ = some (.int .u64 te) := (HA3.out.ptr (g := g4) (C := aTick tq' te) (t := 34) (by simp) 1).1
      go_wp2
      go_ret
      exact ⟨rfl, _, H1.out, by rw [← HE.out]; exact HA3.out.sub (fun p hp => by simp [hp])⟩
    · have HCL := Aside0.mk (And.intro hcl hcl')
      clear hcl hcl'
      go_upto_region 7 with (go_at_call 15; refine (A_claim HA1.out.l1).mono ?_; rewrite [HCL.out.1]; rintro e w5 ⟨rfl, hl5, hf5⟩; have HA2 := Aside0.mk ((HA1.out.call1 hl5 hf5).alloc (.cells (aTick 0 0) 34)); clear hl5 hf5)
      clear t0 t1 t2
      generalize w5.alloc (.cells (aTick 0 0) 34) = w6 at HA2 ⊢
      generalize w5.heap.size = g3 at HA2 ⊢
      go_upto_region 8 with (go_at_call 15; refine (A_claim HA2.out.l2).mono ?_; rewrite [HCL.out.2]; rintro e w7 ⟨rfl, hl7, hf7⟩; have HA3 := Aside0.mk ((HA2.out.call2 hl7 hf7).alloc (.cells (aTick 0 0) 34)); clear hl7 hf7)
      generalize w7.alloc (.cells (aTick 0 0) 34) = w8 at HA3 ⊢
      generalize w7.heap.size = g4 at HA3 ⊢
      have s0 : w8.cell? ⟨g3, 0, none⟩ = some (.int .u64 0) := (HA3.out.ptr (g := g3) (C := aTick 0 0) (t := 34) (by simp) 0).1
      have s1 : w8.cell? ⟨g3, 1, none⟩ = some (.int .u64 0) := (HA3.out.ptr (g := g3) (C := aTick 0 0) (t := 34) (by simp) 1).1
      have s2 : w8.cell? ⟨g4, 0, none⟩ = some (.int .u64 0) := (HA3.out.ptr (g := g4) (C := aTick 0 0) (t := 34) (by simp) 0).1
      have s3 : w8.cell? ⟨g4, 1, none⟩ = some (.int .u64 0) := (HA3.out.ptr (g := g4) (C := aTick 0 0) (t := 34) (by simp) 1).1
      go_wp2
      go_ret
      exact ⟨rfl, _, H1.out, by rw [← HE.out]; exact HA3.out.sub (fun p hp => by simp [hp])⟩
  · skip
    by_cases hk2 : xx.f0 = 2
    · have k1 : (xx.f0 == 1) = false := by simp [hk1]
      have k2 : (xx.f0 == 2) = true := by simp [hk2]
      clear hk1 hk2
      have h1 := (mv_lay H0.out st HQ.out xx.f1.f1 xx.f2.f0 xx.f2.f1).1
      have he0 : (layR (mv st a) y.f1.f0 y.f1.f1 xx.f2.f0 xx.f2.f1).1 = mv st (layR a xx.f1.f0 xx.f1.f1 xx.f2.f0 xx.f2.f1).1 := by rw [HY.out.1, HY.out.2]; exact (mv_lay H0.out st HQ.out xx.f1.f1 xx.f2.f0 xx.f2.f1).2.1
      have hr0 : (layR (mv st a) y.f1.f0 y.f1.f1 xx.f2.f0 xx.f2.f1).2 = (layR a xx.f1.f0 xx.f1.f1 xx.f2.f0 xx.f2.f1).2 := by rw [HY.out.1, HY.out.2]; exact (mv_lay H0.out st HQ.out xx.f1.f1 xx.f2.f0 xx.f2.f1).2.2
      obtain ⟨er, hcl⟩ : ∃ er, (layR a xx.f1.f0 xx.f1.f1 xx.f2.f0 xx.f2.f1).2 = er := ⟨_, rfl⟩
      have hcl' : (layR (mv st a) y.f1.f0 y.f1.f1 xx.f2.f0 xx.f2.f1).2 = er := hr0.trans hcl
      have HCL := Aside0.mk (And.intro hcl hcl')
      have H1 := Aside0.mk h1
      have HE := Aside0.mk he0
      clear hcl hcl' h1 he0 hr0
      clear t1 t2
      go_upto_region 10 with fail
      clear t0
      refine wp_region_held_drew (S := fun w' => w'.heap[g]? = some (.cells (aO xx) 40 (0, 0)) ∧ w'.heap[g2]? = some (.cells (aO y) 40 (0, 0))) (by kernel_rfl) ⟨(HA1.out.obj (g, .cells (aO xx) 40) (by simp)).1, (HA1.out.obj (g2, .cells (aO y) 40) (by simp)).1⟩ (fun hHeld => ?_)
      refine take_at (i := 0) (v := _) 96 rfl rfl (by kernel_rfl) (by kernel_rfl) (by kernel_rfl) (fun _ _ _ h => h) (Or.inl ⟨by rfl, fun w' hW => by have hq0 := (op_blk hW.1).2.1; have hq1 := (op_blk hW.1).2.2.1; have hq2 := (op_blk hW.1).2.2.2.1; have hq3 := (op_blk hW.1).2.2.2.2.1; have hq4 := (op_blk hW.1).2.2.2.2.2.1; have hq5 := (op_blk hW.1).2.2.2.2.2.2; have hq6 := (op_blk hW.2).2.1; have hq7 := (op_blk hW.2).2.2.1; first | (go_simp; done) | (go_simp; with_reducible rfl) | (go_simp; rfl)⟩) hHeld ?_
      try simp only [Act.put, List.setIfInBounds_toArray, List.set_cons_zero, List.set_cons_succ]
      refine take_at (i := 1) (v := _) 97 rfl rfl (by kernel_rfl) (by kernel_rfl) (by kernel_rfl) (fun _ _ _ h => h) (Or.inl ⟨by rfl, fun w' hW => by have hq0 := (op_blk hW.1).2.1; have hq1 := (op_blk hW.1).2.2.1; have hq2 := (op_blk hW.1).2.2.2.1; have hq3 := (op_blk hW.1).2.2.2.2.1; have hq4 := (op_blk hW.1).2.2.2.2.2.1; have hq5 := (op_blk hW.1).2.2.2.2.2.2; have hq6 := (op_blk hW.2).2.1; have hq7 := (op_blk hW.2).2.2.1; first | (go_simp; done) | (go_simp; with_reducible rfl) | (go_simp; rfl)⟩) hHeld ?_
      try simp only [Act.put, List.setIfInBounds_toArray, List.set_cons_zero, List.set_cons_succ]
      refine take_at (i := 2) (v := _) 98 rfl rfl (by kernel_rfl) (by kernel_rfl) (by kernel_rfl) (fun _ _ _ h => h) (Or.inl ⟨by rfl, fun w' hW => by have hq0 := (op_blk hW.1).2.1; have hq1 := (op_blk hW.1).2.2.1; have hq2 := (op_blk hW.1).2.2.2.1; have hq3 := (op_blk hW.1).2.2.2.2.1; have hq4 := (op_blk hW.1).2.2.2.2.2.1; have hq5 := (op_blk hW.1).2.2.2.2.2.2; have hq6 := (op_blk hW.2).2.1; have hq7 := (op_blk hW.2).2.2.1; first | (go_simp; done) | (go_simp; with_reducible rfl) | (go_simp; rfl)⟩) hHeld ?_
      try simp only [Act.put, List.setIfInBounds_toArray, List.set_cons_zero, List.set_cons_succ]
      refine take_at (i := 3) (v := _) 99 rfl rfl (by kernel_rfl) (by kernel_rfl) (by kernel_rfl) (fun _ _ _ h => h) (Or.inl ⟨by rfl, fun w' hW => by have hq0 := (op_blk hW.1).2.1; have hq1 := (op_blk hW.1).2.2.1; have hq2 := (op_blk hW.1).2.2.2.1; have hq3 := (op_blk hW.1).2.2.2.2.1; have hq4 := (op_blk hW.1).2.2.2.2.2.1; have hq5 := (op_blk hW.1).2.2.2.2.2.2; have hq6 := (op_blk hW.2).2.1; have hq7 := (op_blk hW.2).2.2.1; first | (go_simp; done) | (go_simp; with_reducible rfl) | (go_simp; rfl)⟩) hHeld ?_
      try simp only [Act.put, List.setIfInBounds_toArray, List.set_cons_zero, List.set_cons_succ]
      refine take_at (i := 4) (v := _) 100 rfl rfl (by kernel_rfl) (by kernel_rfl) (by kernel_rfl) (fun _ _ _ h => h) (Or.inl ⟨by rfl, fun w' hW => by have hq0 := (op_blk hW.1).2.1; have hq1 := (op_blk hW.1).2.2.1; have hq2 := (op_blk hW.1).2.2.2.1; have hq3 := (op_blk hW.1).2.2.2.2.1; have hq4 := (op_blk hW.1).2.2.2.2.2.1; have hq5 := (op_blk hW.1).2.2.2.2.2.2; have hq6 := (op_blk hW.2).2.1; have hq7 := (op_blk hW.2).2.2.1; first | (go_simp; done) | (go_simp; with_reducible rfl) | (go_simp; rfl)⟩) hHeld ?_
      try simp only [Act.put, List.setIfInBounds_toArray, List.set_cons_zero, List.set_cons_succ]
      refine take_at (i := 6) (v := _) 102 rfl rfl (by kernel_rfl) (by kernel_rfl) (by kernel_rfl) (fun _ _ _ h => h) (Or.inl ⟨by rfl, fun w' hW => by have hq0 := (op_blk hW.1).2.1; have hq1 := (op_blk hW.1).2.2.1; have hq2 := (op_blk hW.1).2.2.2.1; have hq3 := (op_blk hW.1).2.2.2.2.1; have hq4 := (op_blk hW.1).2.2.2.2.2.1; have hq5 := (op_blk hW.1).2.2.2.2.2.2; have hq6 := (op_blk hW.2).2.1; have hq7 := (op_blk hW.2).2.2.1; first | (go_simp; done) | (go_simp; with_reducible rfl) | (go_simp; rfl)⟩) hHeld ?_
      try simp only [Act.put, List.setIfInBounds_toArray, List.set_cons_zero, List.set_cons_succ]
      refine take_at (i := 7) (v := _) 103 rfl rfl (by kernel_rfl) (by kernel_rfl) (by kernel_rfl) (fun _ _ _ h => h) (Or.inl ⟨by rfl, fun w' hW => by have hq0 := (op_blk hW.1).2.1; have hq1 := (op_blk hW.1).2.2.1; have hq2 := (op_blk hW.1).2.2.2.1; have hq3 := (op_blk hW.1).2.2.2.2.1; have hq4 := (op_blk hW.1).2.2.2.2.2.1; have hq5 := (op_blk hW.1).2.2.2.2.2.2; have hq6 := (op_blk hW.2).2.1; have hq7 := (op_blk hW.2).2.2.1; first | (go_simp; done) | (go_simp; with_reducible rfl) | (go_simp; rfl)⟩) hHeld ?_
      try simp only [Act.put, List.setIfInBounds_toArray, List.set_cons_zero, List.set_cons_succ]
      refine take_at (i := 8) (v := _) 104 rfl rfl (by kernel_rfl) (by kernel_rfl) (by kernel_rfl) (fun _ _ _ h => h) (Or.inl ⟨by rfl, fun w' hW => by have hq0 := (op_blk hW.1).2.1; have hq1 := (op_blk hW.1).2.2.1; have hq2 := (op_blk hW.1).2.2.2.1; have hq3 := (op_blk hW.1).2.2.2.2.1; have hq4 := (op_blk hW.1).2.2.2.2.2.1; have hq5 := (op_blk hW.1).2.2.2.2.2.2; have hq6 := (op_blk hW.2).2.1; have hq7 := (op_blk hW.2).2.2.1; first | (go_simp; done) | (go_simp; with_reducible rfl) | (go_simp; rfl)⟩) hHeld ?_
      try simp only [Act.put, List.setIfInBounds_toArray, List.set_cons_zero, List.set_cons_succ]
      refine take_at (i := 9) (v := _) 105 rfl rfl (by kernel_rfl) (by kernel_rfl) (by kernel_rfl) (fun _ _ _ h => h) (Or.inl ⟨by rfl, fun w' hW => by have hq0 := (op_blk hW.1).2.1; have hq1 := (op_blk hW.1).2.2.1; have hq2 := (op_blk hW.1).2.2.2.1; have hq3 := (op_blk hW.1).2.2.2.2.1; have hq4 := (op_blk hW.1).2.2.2.2.2.1; have hq5 := (op_blk hW.1).2.2.2.2.2.2; have hq6 := (op_blk hW.2).2.1; have hq7 := (op_blk hW.2).2.2.1; first | (go_simp; done) | (go_simp; with_reducible rfl) | (go_simp; rfl)⟩) hHeld ?_
      try simp only [Act.put, List.setIfInBounds_toArray, List.set_cons_zero, List.set_cons_succ]
      refine take_at (i := 10) (v := _) 106 rfl rfl (by kernel_rfl) (by kernel_rfl) (by kernel_rfl) (fun _ _ _ h => h) (Or.inl ⟨by rfl, fun w' hW => by have hq0 := (op_blk hW.1).2.1; have hq1 := (op_blk hW.1).2.2.1; have hq2 := (op_blk hW.1).2.2.2.1; have hq3 := (op_blk hW.1).2.2.2.2.1; have hq4 := (op_blk hW.1).2.2.2.2.2.1; have hq5 := (op_blk hW.1).2.2.2.2.2.2; have hq6 := (op_blk hW.2).2.1; have hq7 := (op_blk hW.2).2.2.1; first | (go_simp; done) | (go_simp; with_reducible rfl) | (go_simp; rfl)⟩) hHeld ?_
      try simp only [Act.put, List.setIfInBounds_toArray, List.set_cons_zero, List.set_cons_succ]
      have Hp20 := Aside0.mk (HA1.out.below (Below.refl _ _).drew)
      clear hHeld
      generalize w4.drew = wdp2 at Hp20 ⊢
      refine wpAnyH_ready (rs := [5]) (by kernel_rfl) (by simp) ?_
      refine AllReadyH.cons rfl (fun K hK => ?_) AllReadyH.nil
      go_simp
      go_wp2_with (first | (go_at_call 16; refine (A_lay Hp20.out.l1 (by have := HK.out; omega) xx.f1.f0 xx.f1.f1 xx.f2.f0 xx.f2.f1 HQ.out).mono ?_; rewrite [HCL.out.1]; rintro e wp21 ⟨rfl, hl5, hf5⟩; have Hp21 := Aside0.mk (Hp20.out.call1 hl5 hf5); clear hl5 hf5))
      refine hK.out _ _ ⟨(Hp21.out.obj (g, .cells (aO xx) 40) (by simp)).1, (Hp21.out.obj (g2, .cells (aO y) 40) (by simp)).1⟩ (fun hHeld => ?_)
      clear hK K
      try simp only [Act.put, List.setIfInBounds_toArray, List.set_cons_zero, List.set_cons_succ]
      refine wpAnyH_ready (rs := [11]) (by kernel_rfl) (by simp) ?_
      refine AllReadyH.cons rfl (fun K hK => ?_) AllReadyH.nil
      go_simp
      go_wp2_with (first | (go_at_call 16; refine (A_lay Hp21.out.l2 (by have := HK.out; omega) y.f1.f0 y.f1.f1 xx.f2.f0 xx.f2.f1 HQy.out).mono ?_; rewrite [HCL.out.2]; rintro e wp22 ⟨rfl, hl5, hf5⟩; have Hp22 := Aside0.mk (Hp21.out.call2 hl5 hf5); clear hl5 hf5))
      refine hK.out _ _ ⟨(Hp22.out.obj (g, .cells (aO xx) 40) (by simp)).1, (Hp22.out.obj (g2, .cells (aO y) 40) (by simp)).1⟩ (fun hHeld => ?_)
      clear hK K
      try simp only [Act.put, List.setIfInBounds_toArray, List.set_cons_zero, List.set_cons_succ]
      refine take_at (i := 12) (v := _) 108 rfl rfl (by kernel_rfl) (by kernel_rfl) (by kernel_rfl) (fun _ _ _ h => h) (Or.inl ⟨by rfl, fun w' hW => by have hq0 := (op_blk hW.1).2.1; have hq1 := (op_blk hW.1).2.2.1; have hq2 := (op_blk hW.1).2.2.2.1; have hq3 := (op_blk hW.1).2.2.2.2.1; have hq4 := (op_blk hW.1).2.2.2.2.2.1; have hq5 := (op_blk hW.1).2.2.2.2.2.2; have hq6 := (op_blk hW.2).2.1; have hq7 := (op_blk hW.2).2.2.1; first | (go_simp; done) | (go_simp; with_reducible rfl) | (go_simp; rfl)⟩) hHeld ?_
      try simp only [Act.put, List.setIfInBounds_toArray, List.set_cons_zero, List.set_cons_succ]
      refine take_at (i := 13) (v := _) 10 rfl rfl (by kernel_rfl) (by kernel_rfl) (by kernel_rfl) (fun _ _ _ h => h) (Or.inl ⟨by rfl, fun w' hW => by have hq0 := (op_blk hW.1).2.1; have hq1 := (op_blk hW.1).2.2.1; have hq2 := (op_blk hW.1).2.2.2.1; have hq3 := (op_blk hW.1).2.2.2.2.1; have hq4 := (op_blk hW.1).2.2.2.2.2.1; have hq5 := (op_blk hW.1).2.2.2.2.2.2; have hq6 := (op_blk hW.2).2.1; have hq7 := (op_blk hW.2).2.2.1; first | (go_simp; done) | (go_simp; with_reducible rfl) | (go_simp; rfl)⟩) hHeld ?_
      try simp only [Act.put, List.setIfInBounds_toArray, List.set_cons_zero, List.set_cons_succ]
      refine wpAnyH_done (by kernel_rfl) ?_ _
      clear hHeld
      go_wp2
      go_ret
      exact ⟨rfl, _, H1.out, by rw [← HE.out]; exact Hp22.out.sub (fun p hp => by simp [hp])⟩
    · skip
      by_cases hk3 : xx.f0 = 3
      · have k1 : (xx.f0 == 1) = false := by simp [hk1]
        have k2 : (xx.f0 == 2) = false := by simp [hk2]
        have k3 : (xx.f0 == 3) = true := by simp [hk3]
        clear hk1 hk2 hk3
        obtain ⟨er, hcl⟩ : ∃ er, readyR a xx.f1.f0 xx.f1.f1 = er := ⟨_, rfl⟩
        have hcl' : readyR (mv st a) y.f1.f0 y.f1.f1 = er := by rw [HY.out.1, HY.out.2]; exact (mv_ready H0.out st HQ.out _).trans hcl
        have HCL := Aside0.mk (And.intro hcl hcl')
        clear hcl hcl'
        clear t1 t2
        go_upto_region 12 with fail
        clear t0
        refine wp_region_held_drew (S := fun w' => w'.heap[g]? = some (.cells (aO xx) 40 (0, 0)) ∧ w'.heap[g2]? = some (.cells (aO y) 40 (0, 0))) (by kernel_rfl) ⟨(HA1.out.obj (g, .cells (aO xx) 40) (by simp)).1, (HA1.out.obj (g2, .cells (aO y) 40) (by simp)).1⟩ (fun hHeld => ?_)
        refine take_at (i := 0) (v := _) 111 rfl rfl (by kernel_rfl) (by kernel_rfl) (by kernel_rfl) (fun _ _ _ h => h) (Or.inl ⟨by rfl, fun w' hW => by have hq0 := (op_blk hW.1).2.1; have hq1 := (op_blk hW.1).2.2.1; have hq2 := (op_blk hW.1).2.2.2.1; have hq3 := (op_blk hW.1).2.2.2.2.1; have hq4 := (op_blk hW.1).2.2.2.2.2.1; have hq5 := (op_blk hW.1).2.2.2.2.2.2; have hq6 := (op_blk hW.2).2.1; have hq7 := (op_blk hW.2).2.2.1; first | (go_simp; done) | (go_simp; with_reducible rfl) | (go_simp; rfl)⟩) hHeld ?_
        try simp only [Act.put, List.setIfInBounds_toArray, List.set_cons_zero, List.set_cons_succ]
        refine take_at (i := 1) (v := _) 112 rfl rfl (by kernel_rfl) (by kernel_rfl) (by kernel_rfl) (fun _ _ _ h => h) (Or.inl ⟨by rfl, fun w' hW => by have hq0 := (op_blk hW.1).2.1; have hq1 := (op_blk hW.1).2.2.1; have hq2 := (op_blk hW.1).2.2.2.1; have hq3 := (op_blk hW.1).2.2.2.2.1; have hq4 := (op_blk hW.1).2.2.2.2.2.1; have hq5 := (op_blk hW.1).2.2.2.2.2.2; have hq6 := (op_blk hW.2).2.1; have hq7 := (op_blk hW.2).2.2.1; first | (go_simp; done) | (go_simp; with_reducible rfl) | (go_simp; rfl)⟩) hHeld ?_
        try simp only [Act.put, List.setIfInBounds_toArray, List.set_cons_zero, List.set_cons_succ]
        refine take_at (i := 2) (v := _) 113 rfl rfl (by kernel_rfl) (by kernel_rfl) (by kernel_rfl) (fun _ _ _ h => h) (Or.inl ⟨by rfl, fun w' hW => by have hq0 := (op_blk hW.1).2.1; have hq1 := (op_blk hW.1).2.2.1; have hq2 := (op_blk hW.1).2.2.2.1; have hq3 := (op_blk hW.1).2.2.2.2.1; have hq4 := (op_blk hW.1).2.2.2.2.2.1; have hq5 := (op_blk hW.1).2.2.2.2.2.2; have hq6 := (op_blk hW.2).2.1; have hq7 := (op_blk hW.2).2.2.1; first | (go_simp; done) | (go_simp; with_reducible rfl) | (go_simp; rfl)⟩) hHeld ?_
        try simp only [Act.put, List.setIfInBounds_toArray, List.set_cons_zero, List.set_cons_succ]
        refine take_at (i := 4) (v := _) 115 rfl rfl (by kernel_rfl) (by kernel_rfl) (by kernel_rfl) (fun _ _ _ h => h) (Or.inl ⟨by rfl, fun w' hW => by have hq0 := (op_blk hW.1).2.1; have hq1 := (op_blk hW.1).2.2.1; have hq2 := (op_blk hW.1).2.2.2.1; have hq3 := (op_blk hW.1).2.2.2.2.1; have hq4 := (op_blk hW.1).2.2.2.2.2.1; have hq5 := (op_blk hW.1).2.2.2.2.2.2; have hq6 := (op_blk hW.2).2.1; have hq7 := (op_blk hW.2).2.2.1; first | (go_simp; done) | (go_simp; with_reducible rfl) | (go_simp; rfl)⟩) hHeld ?_
        try simp only [Act.put, List.setIfInBounds_toArray, List.set_cons_zero, List.set_cons_succ]
        refine take_at (i := 5) (v := _) 116 rfl rfl (by kernel_rfl) (by kernel_rfl) (by kernel_rfl) (fun _ _ _ h => h) (Or.inl ⟨by rfl, fun w' hW => by have hq0 := (op_blk hW.1).2.1; have hq1 := (op_blk hW.1).2.2.1; have hq2 := (op_blk hW.1).2.2.2.1; have hq3 := (op_blk hW.1).2.2.2.2.1; have hq4 := (op_blk hW.1).2.2.2.2.2.1; have hq5 := (op_blk hW.1).2.2.2.2.2.2; have hq6 := (op_blk hW.2).2.1; have hq7 := (op_blk hW.2).2.2.1; first | (go_simp; done) | (go_simp; with_reducible rfl) | (go_simp; rfl)⟩) hHeld ?_
        try simp only [Act.put, List.setIfInBounds_toArray, List.set_cons_zero, List.set_cons_succ]
        refine take_at (i := 6) (v := _) 117 rfl rfl (by kernel_rfl) (by kernel_rfl) (by kernel_rfl) (fun _ _ _ h => h) (Or.inl ⟨by rfl, fun w' hW => by have hq0 := (op_blk hW.1).2.1; have hq1 := (op_blk hW.1).2.2.1; have hq2 := (op_blk hW.1).2.2.2.1; have hq3 := (op_blk hW.1).2.2.2.2.1; have hq4 := (op_blk hW.1).2.2.2.2.2.1; have hq5 := (op_blk hW.1).2.2.2.2.2.2; have hq6 := (op_blk hW.2).2.1; have hq7 := (op_blk hW.2).2.2.1; first | (go_simp; done) | (go_simp; with_reducible rfl) | (go_simp; rfl)⟩) hHeld ?_
        try simp only [Act.put, List.setIfInBounds_toArray, List.set_cons_zero, List.set_cons_succ]
        have Hp30 := Aside0.mk (HA1.out.below (Below.refl _ _).drew)
        clear hHeld
        generalize w4.drew = wdp3 at Hp30 ⊢
        refine wpAnyH_ready (rs := [3]) (by kernel_rfl) (by simp) ?_
        refine AllReadyH.cons rfl (fun K hK => ?_) AllReadyH.nil
        go_simp
        go_wp2_with (first | (go_at_call 21; refine (A_ready Hp30.out.l1 (by have := HK.out; omega) xx.f1.f0 xx.f1.f1 HQ.out).mono ?_; rewrite [HCL.out.1]; rintro e wp31 ⟨rfl, hl5⟩; have Hp31 := Aside0.mk (Hp30.out.below hl5); clear hl5))
        refine hK.out _ _ ⟨(Hp31.out.obj (g, .cells (aO xx) 40) (by simp)).1, (Hp31.out.obj (g2, .cells (aO y) 40) (by simp)).1⟩ (fun hHeld => ?_)
        clear hK K
        try simp only [Act.put, List.setIfInBounds_toArray, List.set_cons_zero, List.set_cons_succ]
        refine wpAnyH_ready (rs := [7]) (by kernel_rfl) (by simp) ?_
        refine AllReadyH.cons rfl (fun K hK => ?_) AllReadyH.nil
        go_simp
        go_wp2_with (first | (go_at_call 21; refine (A_ready Hp31.out.l2 (by have := HK.out; omega) y.f1.f0 y.f1.f1 HQy.out).mono ?_; rewrite [HCL.out.2]; rintro e wp32 ⟨rfl, hl5⟩; have Hp32 := Aside0.mk (Hp31.out.below hl5); clear hl5))
        refine hK.out _ _ ⟨(Hp32.out.obj (g, .cells (aO xx) 40) (by simp)).1, (Hp32.out.obj (g2, .cells (aO y) 40) (by simp)).1⟩ (fun hHeld => ?_)
        clear hK K
        try simp only [Act.put, List.setIfInBounds_toArray, List.set_cons_zero, List.set_cons_succ]
        refine take_at (i := 8) (v := _) 119 rfl rfl (by kernel_rfl) (by kernel_rfl) (by kernel_rfl) (fun _ _ _ h => h) (Or.inl ⟨by rfl, fun w' hW => by have hq0 := (op_blk hW.1).2.1; have hq1 := (op_blk hW.1).2.2.1; have hq2 := (op_blk hW.1).2.2.2.1; have hq3 := (op_blk hW.1).2.2.2.2.1; have hq4 := (op_blk hW.1).2.2.2.2.2.1; have hq5 := (op_blk hW.1).2.2.2.2.2.2; have hq6 := (op_blk hW.2).2.1; have hq7 := (op_blk hW.2).2.2.1; first | (go_simp; done) | (go_simp; with_reducible rfl) | (go_simp; rfl)⟩) hHeld ?_
        try simp only [Act.put, List.setIfInBounds_toArray, List.set_cons_zero, List.set_cons_succ]
        refine take_at (i := 9) (v := _) 10 rfl rfl (by kernel_rfl) (by kernel_rfl) (by kernel_rfl) (fun _ _ _ h => h) (Or.inl ⟨by rfl, fun w' hW => by have hq0 := (op_blk hW.1).2.1; have hq1 := (op_blk hW.1).2.2.1; have hq2 := (op_blk hW.1).2.2.2.1; have hq3 := (op_blk hW.1).2.2.2.2.1; have hq4 := (op_blk hW.1).2.2.2.2.2.1; have hq5 := (op_blk hW.1).2.2.2.2.2.2; have hq6 := (op_blk hW.2).2.1; have hq7 := (op_blk hW.2).2.2.1; first | (go_simp; done) | (go_simp; with_reducible rfl) | (go_simp; rfl)⟩) hHeld ?_
        try simp only [Act.put, List.setIfInBounds_toArray, List.set_cons_zero, List.set_cons_succ]
        refine wpAnyH_done (by kernel_rfl) ?_ _
        clear hHeld
        go_wp2
        go_ret
        exact ⟨rfl, _, H0.out, (Hp32.out.mono (by omega)).sub (fun p hp => by simp [hp])⟩
      · skip
        by_cases hk4 : xx.f0 = 4
        · have k1 : (xx.f0 == 1) = false := by simp [hk1]
          have k2 : (xx.f0 == 2) = false := by simp [hk2]
          have k3 : (xx.f0 == 3) = false := by simp [hk3]
          have k4 : (xx.f0 == 4) = true := by simp [hk4]
          clear hk1 hk2 hk3 hk4
          have h1 := (mv_pub H0.out st HQ.out xx.f1.f1 xx.f3.f0 xx.f3.f1).1
          have he0 : (pubR (mv st a) y.f1.f0 y.f1.f1 xx.f3.f0 xx.f3.f1).1 = mv st (pubR a xx.f1.f0 xx.f1.f1 xx.f3.f0 xx.f3.f1).1 := by rw [HY.out.1, HY.out.2]; exact (mv_pub H0.out st HQ.out xx.f1.f1 xx.f3.f0 xx.f3.f1).2.1
          have hr0 : (pubR (mv st a) y.f1.f0 y.f1.f1 xx.f3.f0 xx.f3.f1).2 = (pubR a xx.f1.f0 xx.f1.f1 xx.f3.f0 xx.f3.f1).2 := by rw [HY.out.1, HY.out.2]; exact (mv_pub H0.out st HQ.out xx.f1.f1 xx.f3.f0 xx.f3.f1).2.2
          obtain ⟨er, hcl⟩ : ∃ er, (pubR a xx.f1.f0 xx.f1.f1 xx.f3.f0 xx.f3.f1).2 = er := ⟨_, rfl⟩
          have hcl' : (pubR (mv st a) y.f1.f0 y.f1.f1 xx.f3.f0 xx.f3.f1).2 = er := hr0.trans hcl
          have HCL := Aside0.mk (And.intro hcl hcl')
          have H1 := Aside0.mk h1
          have HE := Aside0.mk he0
          clear hcl hcl' h1 he0 hr0
          clear t1 t2
          go_upto_region 14 with fail
          clear t0
          refine wp_region_held_drew (S := fun w' => w'.heap[g]? = some (.cells (aO xx) 40 (0, 0)) ∧ w'.heap[g2]? = some (.cells (aO y) 40 (0, 0))) (by kernel_rfl) ⟨(HA1.out.obj (g, .cells (aO xx) 40) (by simp)).1, (HA1.out.obj (g2, .cells (aO y) 40) (by simp)).1⟩ (fun hHeld => ?_)
          refine take_at (i := 0) (v := _) 122 rfl rfl (by kernel_rfl) (by kernel_rfl) (by kernel_rfl) (fun _ _ _ h => h) (Or.inl ⟨by rfl, fun w' hW => by have hq0 := (op_blk hW.1).2.1; have hq1 := (op_blk hW.1).2.2.1; have hq2 := (op_blk hW.1).2.2.2.1; have hq3 := (op_blk hW.1).2.2.2.2.1; have hq4 := (op_blk hW.1).2.2.2.2.2.1; have hq5 := (op_blk hW.1).2.2.2.2.2.2; have hq6 := (op_blk hW.2).2.1; have hq7 := (op_blk hW.2).2.2.1; first | (go_simp; done) | (go_simp; with_reducible rfl) | (go_simp; rfl)⟩) hHeld ?_
          try simp only [Act.put, List.setIfInBounds_toArray, List.set_cons_zero, List.set_cons_succ]
          refine take_at (i := 1) (v := _) 123 rfl rfl (by kernel_rfl) (by kernel_rfl) (by kernel_rfl) (fun _ _ _ h => h) (Or.inl ⟨by rfl, fun w' hW => by have hq0 := (op_blk hW.1).2.1; have hq1 := (op_blk hW.1).2.2.1; have hq2 := (op_blk hW.1).2.2.2.1; have hq3 := (op_blk hW.1).2.2.2.2.1; have hq4 := (op_blk hW.1).2.2.2.2.2.1; have hq5 := (op_blk hW.1).2.2.2.2.2.2; have hq6 := (op_blk hW.2).2.1; have hq7 := (op_blk hW.2).2.2.1; first | (go_simp; done) | (go_simp; with_reducible rfl) | (go_simp; rfl)⟩) hHeld ?_
          try simp only [Act.put, List.setIfInBounds_toArray, List.set_cons_zero, List.set_cons_succ]
          refine take_at (i := 2) (v := _) 124 rfl rfl (by kernel_rfl) (by kernel_rfl) (by kernel_rfl) (fun _ _ _ h => h) (Or.inl ⟨by rfl, fun w' hW => by have hq0 := (op_blk hW.1).2.1; have hq1 := (op_blk hW.1).2.2.1; have hq2 := (op_blk hW.1).2.2.2.1; have hq3 := (op_blk hW.1).2.2.2.2.1; have hq4 := (op_blk hW.1).2.2.2.2.2.1; have hq5 := (op_blk hW.1).2.2.2.2.2.2; have hq6 := (op_blk hW.2).2.1; have hq7 := (op_blk hW.2).2.2.1; first | (go_simp; done) | (go_simp; with_reducible rfl) | (go_simp; rfl)⟩) hHeld ?_
          try simp only [Act.put, List.setIfInBounds_toArray, List.set_cons_zero, List.set_cons_succ]
          refine take_at (i := 3) (v := _) 125 rfl rfl (by kernel_rfl) (by kernel_rfl) (by kernel_rfl) (fun _ _ _ h => h) (Or.inl ⟨by rfl, fun w' hW => by have hq0 := (op_blk hW.1).2.1; have hq1 := (op_blk hW.1).2.2.1; have hq2 := (op_blk hW.1).2.2.2.1; have hq3 := (op_blk hW.1).2.2.2.2.1; have hq4 := (op_blk hW.1).2.2.2.2.2.1; have hq5 := (op_blk hW.1).2.2.2.2.2.2; have hq6 := (op_blk hW.2).2.1; have hq7 := (op_blk hW.2).2.2.1; first | (go_simp; done) | (go_simp; with_reducible rfl) | (go_simp; rfl)⟩) hHeld ?_
          try simp only [Act.put, List.setIfInBounds_toArray, List.set_cons_zero, List.set_cons_succ]
          refine take_at (i := 4) (v := _) 126 rfl rfl (by kernel_rfl) (by kernel_rfl) (by kernel_rfl) (fun _ _ _ h => h) (Or.inl ⟨by rfl, fun w' hW => by have hq0 := (op_blk hW.1).2.1; have hq1 := (op_blk hW.1).2.2.1; have hq2 := (op_blk hW.1).2.2.2.1; have hq3 := (op_blk hW.1).2.2.2.2.1; have hq4 := (op_blk hW.1).2.2.2.2.2.1; have hq5 := (op_blk hW.1).2.2.2.2.2.2; have hq6 := (op_blk hW.2).2.1; have hq7 := (op_blk hW.2).2.2.1; first | (go_simp; done) | (go_simp; with_reducible rfl) | (go_simp; rfl)⟩) hHeld ?_
          try simp only [Act.put, List.setIfInBounds_toArray, List.set_cons_zero, List.set_cons_succ]
          refine take_at (i := 6) (v := _) 128 rfl rfl (by kernel_rfl) (by kernel_rfl) (by kernel_rfl) (fun _ _ _ h => h) (Or.inl ⟨by rfl, fun w' hW => by have hq0 := (op_blk hW.1).2.1; have hq1 := (op_blk hW.1).2.2.1; have hq2 := (op_blk hW.1).2.2.2.1; have hq3 := (op_blk hW.1).2.2.2.2.1; have hq4 := (op_blk hW.1).2.2.2.2.2.1; have hq5 := (op_blk hW.1).2.2.2.2.2.2; have hq6 := (op_blk hW.2).2.1; have hq7 := (op_blk hW.2).2.2.1; first | (go_simp; done) | (go_simp; with_reducible rfl) | (go_simp; rfl)⟩) hHeld ?_
          try simp only [Act.put, List.setIfInBounds_toArray, List.set_cons_zero, List.set_cons_succ]
          refine take_at (i := 7) (v := _) 129 rfl rfl (by kernel_rfl) (by kernel_rfl) (by kernel_rfl) (fun _ _ _ h => h) (Or.inl ⟨by rfl, fun w' hW => by have hq0 := (op_blk hW.1).2.1; have hq1 := (op_blk hW.1).2.2.1; have hq2 := (op_blk hW.1).2.2.2.1; have hq3 := (op_blk hW.1).2.2.2.2.1; have hq4 := (op_blk hW.1).2.2.2.2.2.1; have hq5 := (op_blk hW.1).2.2.2.2.2.2; have hq6 := (op_blk hW.2).2.1; have hq7 := (op_blk hW.2).2.2.1; first | (go_simp; done) | (go_simp; with_reducible rfl) | (go_simp; rfl)⟩) hHeld ?_
          try simp only [Act.put, List.setIfInBounds_toArray, List.set_cons_zero, List.set_cons_succ]
          refine take_at (i := 8) (v := _) 130 rfl rfl (by kernel_rfl) (by kernel_rfl) (by kernel_rfl) (fun _ _ _ h => h) (Or.inl ⟨by rfl, fun w' hW => by have hq0 := (op_blk hW.1).2.1; have hq1 := (op_blk hW.1).2.2.1; have hq2 := (op_blk hW.1).2.2.2.1; have hq3 := (op_blk hW.1).2.2.2.2.1; have hq4 := (op_blk hW.1).2.2.2.2.2.1; have hq5 := (op_blk hW.1).2.2.2.2.2.2; have hq6 := (op_blk hW.2).2.1; have hq7 := (op_blk hW.2).2.2.1; first | (go_simp; done) | (go_simp; with_reducible rfl) | (go_simp; rfl)⟩) hHeld ?_
          try simp only [Act.put, List.setIfInBounds_toArray, List.set_cons_zero, List.set_cons_succ]
          refine take_at (i := 9) (v := _) 131 rfl rfl (by kernel_rfl) (by kernel_rfl) (by kernel_rfl) (fun _ _ _ h => h) (Or.inl ⟨by rfl, fun w' hW => by have hq0 := (op_blk hW.1).2.1; have hq1 := (op_blk hW.1).2.2.1; have hq2 := (op_blk hW.1).2.2.2.1; have hq3 := (op_blk hW.1).2.2.2.2.1; have hq4 := (op_blk hW.1).2.2.2.2.2.1; have hq5 := (op_blk hW.1).2.2.2.2.2.2; have hq6 := (op_blk hW.2).2.1; have hq7 := (op_blk hW.2).2.2.1; first | (go_simp; done) | (go_simp; with_reducible rfl) | (go_simp; rfl)⟩) hHeld ?_
          try simp only [Act.put, List.setIfInBounds_toArray, List.set_cons_zero, List.set_cons_succ]
          refine take_at (i := 10) (v := _) 132 rfl rfl (by kernel_rfl) (by kernel_rfl) (by kernel_rfl) (fun _ _ _ h => h) (Or.inl ⟨by rfl, fun w' hW => by have hq0 := (op_blk hW.1).2.1; have hq1 := (op_blk hW.1).2.2.1; have hq2 := (op_blk hW.1).2.2.2.1; have hq3 := (op_blk hW.1).2.2.2.2.1; have hq4 := (op_blk hW.1).2.2.2.2.2.1; have hq5 := (op_blk hW.1).2.2.2.2.2.2; have hq6 := (op_blk hW.2).2.1; have hq7 := (op_blk hW.2).2.2.1; first | (go_simp; done) | (go_simp; with_reducible rfl) | (go_simp; rfl)⟩) hHeld ?_
          try simp only [Act.put, List.setIfInBounds_toArray, List.set_cons_zero, List.set_cons_succ]
          have Hp40 := Aside0.mk (HA1.out.below (Below.refl _ _).drew)
          clear hHeld
          generalize w4.drew = wdp4 at Hp40 ⊢
          refine wpAnyH_ready (rs := [5]) (by kernel_rfl) (by simp) ?_
          refine AllReadyH.cons rfl (fun K hK => ?_) AllReadyH.nil
          go_simp
          go_wp2_with (first | (go_at_call 20; refine (A_pub Hp40.out.l1 (by have := HK.out; omega) xx.f1.f0 xx.f1.f1 xx.f3.f0 xx.f3.f1 HQ.out).mono ?_; rewrite [HCL.out.1]; rintro e wp41 ⟨rfl, hl5, hf5⟩; have Hp41 := Aside0.mk (Hp40.out.call1 hl5 hf5); clear hl5 hf5))
          refine hK.out _ _ ⟨(Hp41.out.obj (g, .cells (aO xx) 40) (by simp)).1, (Hp41.out.obj (g2, .cells (aO y) 40) (by simp)).1⟩ (fun hHeld => ?_)
          clear hK K
          try simp only [Act.put, List.setIfInBounds_toArray, List.set_cons_zero, List.set_cons_succ]
          refine wpAnyH_ready (rs := [11]) (by kernel_rfl) (by simp) ?_
          refine AllReadyH.cons rfl (fun K hK => ?_) AllReadyH.nil
          go_simp
          go_wp2_with (first | (go_at_call 20; refine (A_pub Hp41.out.l2 (by have := HK.out; omega) y.f1.f0 y.f1.f1 xx.f3.f0 xx.f3.f1 HQy.out).mono ?_; rewrite [HCL.out.2]; rintro e wp42 ⟨rfl, hl5, hf5⟩; have Hp42 := Aside0.mk (Hp41.out.call2 hl5 hf5); clear hl5 hf5))
          refine hK.out _ _ ⟨(Hp42.out.obj (g, .cells (aO xx) 40) (by simp)).1, (Hp42.out.obj (g2, .cells (aO y) 40) (by simp)).1⟩ (fun hHeld => ?_)
          clear hK K
          try simp only [Act.put, List.setIfInBounds_toArray, List.set_cons_zero, List.set_cons_succ]
          refine take_at (i := 12) (v := _) 134 rfl rfl (by kernel_rfl) (by kernel_rfl) (by kernel_rfl) (fun _ _ _ h => h) (Or.inl ⟨by rfl, fun w' hW => by have hq0 := (op_blk hW.1).2.1; have hq1 := (op_blk hW.1).2.2.1; have hq2 := (op_blk hW.1).2.2.2.1; have hq3 := (op_blk hW.1).2.2.2.2.1; have hq4 := (op_blk hW.1).2.2.2.2.2.1; have hq5 := (op_blk hW.1).2.2.2.2.2.2; have hq6 := (op_blk hW.2).2.1; have hq7 := (op_blk hW.2).2.2.1; first | (go_simp; done) | (go_simp; with_reducible rfl) | (go_simp; rfl)⟩) hHeld ?_
          try simp only [Act.put, List.setIfInBounds_toArray, List.set_cons_zero, List.set_cons_succ]
          refine take_at (i := 13) (v := _) 10 rfl rfl (by kernel_rfl) (by kernel_rfl) (by kernel_rfl) (fun _ _ _ h => h) (Or.inl ⟨by rfl, fun w' hW => by have hq0 := (op_blk hW.1).2.1; have hq1 := (op_blk hW.1).2.2.1; have hq2 := (op_blk hW.1).2.2.2.1; have hq3 := (op_blk hW.1).2.2.2.2.1; have hq4 := (op_blk hW.1).2.2.2.2.2.1; have hq5 := (op_blk hW.1).2.2.2.2.2.2; have hq6 := (op_blk hW.2).2.1; have hq7 := (op_blk hW.2).2.2.1; first | (go_simp; done) | (go_simp; with_reducible rfl) | (go_simp; rfl)⟩) hHeld ?_
          try simp only [Act.put, List.setIfInBounds_toArray, List.set_cons_zero, List.set_cons_succ]
          refine wpAnyH_done (by kernel_rfl) ?_ _
          clear hHeld
          go_wp2
          go_ret
          exact ⟨rfl, _, H1.out, by rw [← HE.out]; exact Hp42.out.sub (fun p hp => by simp [hp])⟩
        · skip
          by_cases hk6 : xx.f0 = 6
          · have k1 : (xx.f0 == 1) = false := by simp [hk1]
            have k2 : (xx.f0 == 2) = false := by simp [hk2]
            have k3 : (xx.f0 == 3) = false := by simp [hk3]
            have k4 : (xx.f0 == 4) = false := by simp [hk4]
            have k6 : (xx.f0 == 6) = true := by simp [hk6]
            clear hk1 hk2 hk3 hk4 hk6
            obtain ⟨⟨h1, he⟩, hc⟩ := mv_take H0.out st
            have H1 := Aside0.mk h1
            have HE := Aside0.mk he
            clear h1 he
            rcases hc with ⟨tn, tg, tq, tq', te, hcl, hcl', hm⟩ | ⟨hcl, hcl'⟩
            · have HCL := Aside0.mk (And.intro hcl hcl')
              clear hcl hcl'
              have hm' : (IntKind.u64.wrap (tq + st) == tq') = true := by unfold mq at hm; rw [hm]; simp
              clear hm
              go_upto_region 17 with (go_at_call 17; refine (A_take HA1.out.l1 (by have := HK.out; omega)).mono ?_; rewrite [HCL.out.1]; rintro e w5 ⟨rfl, hl5, hf5⟩; have HA2 := Aside0.mk ((HA1.out.call1 hl5 hf5).alloc2 (.cells (aSlot tn tg) 36) (.cells (aTick tq te) 34)); clear hl5 hf5)
              clear t0 t1 t2
              generalize (w5.alloc (.cells (aSlot tn tg) 36)).alloc (.cells (aTick tq te) 34) = w6 at HA2 ⊢
              generalize w5.heap.size + 1 = g4 at HA2 ⊢
              generalize w5.heap.size = g3 at HA2 ⊢
              go_upto_region 18 with (go_at_call 17; refine (A_take HA2.out.l2 (by have := HK.out; omega)).mono ?_; rewrite [HCL.out.2]; rintro e w7 ⟨rfl, hl7, hf7⟩; have HA3 := Aside0.mk ((HA2.out.call2 hl7 hf7).alloc2 (.cells (aSlot tn tg) 36) (.cells (aTick tq' te) 34)); clear hl7 hf7)
              generalize (w7.alloc (.cells (aSlot tn tg) 36)).alloc (.cells (aTick tq' te) 34) = w8 at HA3 ⊢
              generalize w7.heap.size + 1 = g6 at HA3 ⊢
              generalize w7.heap.size = g5 at HA3 ⊢
              have s0 : w8.cell? ⟨g3, 0, none⟩ = some (.int .i64 tn) := (HA3.out.ptr (g := g3) (C := aSlot tn tg) (t := 36) (by simp) 0).1
              have s1 : w8.cell? ⟨g3, 1, none⟩ = some (.int .u64 tg) := (HA3.out.ptr (g := g3) (C := aSlot tn tg) (t := 36) (by simp) 1).1
              have s2 : w8.cell? ⟨g5, 0, none⟩ = some (.int .i64 tn) := (HA3.out.ptr (g := g5) (C := aSlot tn tg) (t := 36) (by simp) 0).1
              have s3 : w8.cell? ⟨g5, 1, none⟩ = some (.int .u64 tg) := (HA3.out.ptr (g := g5) (C := aSlot tn tg) (t := 36) (by simp) 1).1
              have s4 : w8.cell? ⟨g4, 0, none⟩ = some (.int .u64 tq) := (HA3.out.ptr (g := g4) (C := aTick tq te) (t := 34) (by simp) 0).1
              have s5 : w8.cell? ⟨g6, 0, none⟩ = some (.int .u64 tq') := (HA3.out.ptr (g := g6) (C := aTick tq' te) (t := 34) (by simp) 0).1
              go_wp2
              go_ret
              exact ⟨rfl, _, H1.out, by rw [← HE.out]; exact HA3.out.sub (fun p hp => by simp [hp])⟩
            · have HCL := Aside0.mk (And.intro hcl hcl')
              clear hcl hcl'
              go_upto_region 17 with (go_at_call 17; refine (A_take HA1.out.l1 (by have := HK.out; omega)).mono ?_; rewrite [HCL.out.1]; rintro e w5 ⟨rfl, hl5, hf5⟩; have HA2 := Aside0.mk ((HA1.out.call1 hl5 hf5).alloc2 (.cells (aSlot 0 0) 36) (.cells (aTick 0 0) 34)); clear hl5 hf5)
              clear t0 t1 t2
              generalize (w5.alloc (.cells (aSlot 0 0) 36)).alloc (.cells (aTick 0 0) 34) = w6 at HA2 ⊢
              generalize w5.heap.size + 1 = g4 at HA2 ⊢
              generalize w5.heap.size = g3 at HA2 ⊢
              go_upto_region 18 with (go_at_call 17; refine (A_take HA2.out.l2 (by have := HK.out; omega)).mono ?_; rewrite [HCL.out.2]; rintro e w7 ⟨rfl, hl7, hf7⟩; have HA3 := Aside0.mk ((HA2.out.call2 hl7 hf7).alloc2 (.cells (aSlot 0 0) 36) (.cells (aTick 0 0) 34)); clear hl7 hf7)
              generalize (w7.alloc (.cells (aSlot 0 0) 36)).alloc (.cells (aTick 0 0) 34) = w8 at HA3 ⊢
              generalize w7.heap.size + 1 = g6 at HA3 ⊢
              generalize w7.heap.size = g5 at HA3 ⊢
              have s0 : w8.cell? ⟨g3, 0, none⟩ = some (.int .i64 0) := (HA3.out.ptr (g := g3) (C := aSlot 0 0) (t := 36) (by simp) 0).1
              have s1 : w8.cell? ⟨g3, 1, none⟩ = some (.int .u64 0) := (HA3.out.ptr (g := g3) (C := aSlot 0 0) (t := 36) (by simp) 1).1
              have s2 : w8.cell? ⟨g5, 0, none⟩ = some (.int .i64 0) := (HA3.out.ptr (g := g5) (C := aSlot 0 0) (t := 36) (by simp) 0).1
              have s3 : w8.cell? ⟨g5, 1, none⟩ = some (.int .u64 0) := (HA3.out.ptr (g := g5) (C := aSlot 0 0) (t := 36) (by simp) 1).1
              have s4 : w8.cell? ⟨g4, 0, none⟩ = some (.int .u64 0) := (HA3.out.ptr (g := g4) (C := aTick 0 0) (t := 34) (by simp) 0).1
              have s5 : w8.cell? ⟨g6, 0, none⟩ = some (.int .u64 0) := (HA3.out.ptr (g := g6) (C := aTick 0 0) (t := 34) (by simp) 0).1
              go_wp2
              go_ret
              exact ⟨rfl, _, H1.out, by rw [← HE.out]; exact HA3.out.sub (fun p hp => by simp [hp])⟩
          · skip
            by_cases hk7 : xx.f0 = 7
            · have k1 : (xx.f0 == 1) = false := by simp [hk1]
              have k2 : (xx.f0 == 2) = false := by simp [hk2]
              have k3 : (xx.f0 == 3) = false := by simp [hk3]
              have k4 : (xx.f0 == 4) = false := by simp [hk4]
              have k6 : (xx.f0 == 6) = false := by simp [hk6]
              have k7 : (xx.f0 == 7) = true := by simp [hk7]
              clear hk1 hk2 hk3 hk4 hk6 hk7
              have h1 := (mv_ret H0.out st HQ.out xx.f1.f1).1
              have he0 : (retR (mv st a) y.f1.f0 y.f1.f1).1 = mv st (retR a xx.f1.f0 xx.f1.f1).1 := by rw [HY.out.1, HY.out.2]; exact (mv_ret H0.out st HQ.out xx.f1.f1).2.1
              have hr0 : (retR (mv st a) y.f1.f0 y.f1.f1).2 = (retR a xx.f1.f0 xx.f1.f1).2 := by rw [HY.out.1, HY.out.2]; exact (mv_ret H0.out st HQ.out xx.f1.f1).2.2
              obtain ⟨rn, rg, rb, er, hcl⟩ := retR_shape a xx.f1.f0 xx.f1.f1
              have HCL := Aside0.mk (And.intro hcl (hr0.trans hcl))
              have H1 := Aside0.mk h1
              have HE := Aside0.mk he0
              clear hcl h1 he0 hr0
              go_upto_region 21 with (go_at_call 19; refine (A_ret HA1.out.l1 (by have := HK.out; omega) xx.f1.f0 xx.f1.f1 HQ.out).mono ?_; rewrite [HCL.out.1]; rintro e w5 ⟨rfl, hl5, hf5⟩; have HA2 := Aside0.mk ((HA1.out.call1 hl5 hf5).alloc (.cells (aSlot rn rg) 36)); clear hl5 hf5)
              clear t0 t1 t2
              generalize w5.alloc (.cells (aSlot rn rg) 36) = w6 at HA2 ⊢
              generalize w5.heap.size = g3 at HA2 ⊢
              have u1 : w6.cell? ⟨g2, 1, none⟩ = some (.int .u64 y.f1.f0) := (HA2.out.ptr (g := g2) (C := aO y) (t := 40) (by simp) 1).1
              have u2 : w6.cell? ⟨g2, 2, none⟩ = some (.int .u64 y.f1.f1) := (HA2.out.ptr (g := g2) (C := aO y) (t := 40) (by simp) 2).1
              go_upto_region 22 with (go_at_call 19; refine (A_ret HA2.out.l2 (by have := HK.out; omega) y.f1.f0 y.f1.f1 HQy.out).mono ?_; rewrite [HCL.out.2]; rintro e w7 ⟨rfl, hl7, hf7⟩; have HA3 := Aside0.mk ((HA2.out.call2 hl7 hf7).alloc (.cells (aSlot rn rg) 36)); clear hl7 hf7)
              clear u1 u2
              generalize w7.alloc (.cells (aSlot rn rg) 36) = w8 at HA3 ⊢
              generalize w7.heap.size = g5 at HA3 ⊢
              have s0 : w8.cell? ⟨g3, 0, none⟩ = some (.int .i64 rn) := (HA3.out.ptr (g := g3) (C := aSlot rn rg) (t := 36) (by simp) 0).1
              have s1 : w8.cell? ⟨g3, 1, none⟩ = some (.int .u64 rg) := (HA3.out.ptr (g := g3) (C := aSlot rn rg) (t := 36) (by simp) 1).1
              have s2 : w8.cell? ⟨g5, 0, none⟩ = some (.int .i64 rn) := (HA3.out.ptr (g := g5) (C := aSlot rn rg) (t := 36) (by simp) 0).1
              have s3 : w8.cell? ⟨g5, 1, none⟩ = some (.int .u64 rg) := (HA3.out.ptr (g := g5) (C := aSlot rn rg) (t := 36) (by simp) 1).1
              cases rb
              · go_wp2
                go_ret
                exact ⟨rfl, _, H1.out, by rw [← HE.out]; exact HA3.out.sub (fun p hp => by simp [hp])⟩
              · go_wp2
                go_ret
                exact ⟨rfl, _, H1.out, by rw [← HE.out]; exact HA3.out.sub (fun p hp => by simp [hp])⟩
            · skip
              by_cases hk8 : xx.f0 = 8
              · have k1 : (xx.f0 == 1) = false := by simp [hk1]
                have k2 : (xx.f0 == 2) = false := by simp [hk2]
                have k3 : (xx.f0 == 3) = false := by simp [hk3]
                have k4 : (xx.f0 == 4) = false := by simp [hk4]
                have k6 : (xx.f0 == 6) = false := by simp [hk6]
                have k7 : (xx.f0 == 7) = false := by simp [hk7]
                have k8 : (xx.f0 == 8) = true := by simp [hk8]
                clear hk1 hk2 hk3 hk4 hk6 hk7 hk8
                obtain ⟨h1, he0, hr0, hl0⟩ := mv_reset H0.out st
                obtain ⟨er, hcl⟩ : ∃ er, (resetR a).2 = er := ⟨_, rfl⟩
                obtain ⟨ls, hls⟩ : ∃ ls, resetL a = ls := ⟨_, rfl⟩
                have hlen : ls.length < 1000000 := by have h := HA1.out.l1; obtain ⟨s, _, _, hr⟩ := h; have h3 := hr.tot; have h4 := hr.c64; rw [← hls]; unfold resetL; split; (unfold slotsA; unfold AS.total at h3; simp only [List.length_append, List.length_map]; omega); simp
                have HCL := Aside0.mk (And.intro hcl (hr0.trans hcl))
                have HLS := Aside0.mk (And.intro hls (hl0.trans hls))
                have HLE := Aside0.mk hlen
                have H1 := Aside0.mk h1
                have HE := Aside0.mk he0
                clear hcl hls hlen h1 he0 hr0 hl0 t1 t2
                go_upto_region 25 with (go_at_call 18; refine (A_reset HA1.out.l1 (by have := HK.out; omega)).mono ?_; rewrite [HCL.out.1, HLS.out.1]; rintro e w5 ⟨rA, rc, rfl, hrc, hsl, hge, hl5, hf5⟩; have HA2 := Aside0.mk (HA1.out.call1 hl5 hf5); have HS := Aside0.mk (And.intro hrc (And.intro hsl hge)); clear hrc hsl hge hl5 hf5)
                clear t0
                go_upto_region 26 with (go_at_call 18; refine (A_reset HA2.out.l2 (by have := HK.out; omega)).mono ?_; rewrite [HCL.out.2, HLS.out.2]; rintro e w6 ⟨rA2, rc2, rfl, hrc, hsl, hge, hl6, hf6⟩; have HA3 := Aside0.mk (HA2.out.call2 hl6 hf6); have HS1 := Aside0.mk (HS.out.2.1.far HS.out.2.2 HA1.out.l2.lt.1 HA1.out.l2.lt.2.1 hf6); have HS2 := Aside0.mk (And.intro hrc hsl); clear hrc hsl hge hl6 hf6)
                go_wp2_with (go_at_call 33; refine (SameSlots_calls rA rA2 rc rc2 ls _ HS1.out HS2.out.2 HLE.out HS.out.1 HS2.out.1).mono ?_; rintro e w7 ⟨rfl, nd, rfl⟩; have HA4 := Aside0.mk (HA3.out.below (pw_below_drewN (Below.refl _ _) nd)))
                go_ret
                exact ⟨rfl, _, H1.out, by rw [← HE.out]; exact HA4.out.sub (fun p hp => by simp [hp])⟩
              · skip
                have k1 : (xx.f0 == 1) = false := by simp [hk1]
                have k2 : (xx.f0 == 2) = false := by simp [hk2]
                have k3 : (xx.f0 == 3) = false := by simp [hk3]
                have k4 : (xx.f0 == 4) = false := by simp [hk4]
                have k6 : (xx.f0 == 6) = false := by simp [hk6]
                have k7 : (xx.f0 == 7) = false := by simp [hk7]
                have k8 : (xx.f0 == 8) = false := by simp [hk8]
                clear hk1 hk2 hk3 hk4 hk6 hk7 hk8
                obtain ⟨sx, sy, sq, sq2, se, sb, hcl, hcl'⟩ := mv_first (a := a) st
                have HCL := Aside0.mk (And.intro hcl hcl')
                clear hcl hcl'
                go_upto_region 3 with (go_at_call 23; refine (A_first HA1.out.l1 (by have := HK.out; omega)).mono ?_; rewrite [HCL.out.1]; rintro e w5 ⟨rfl, hl5⟩; have HA2 := Aside0.mk ((HA1.out.below hl5).alloc2 (.cells (aStamp sx sy) 38) (.cells (aTick sq se) 34)); clear hl5)
                clear t0 t1 t2
                generalize (w5.alloc (.cells (aStamp sx sy) 38)).alloc (.cells (aTick sq se) 34) = w6 at HA2 ⊢
                generalize w5.heap.size + 1 = g4 at HA2 ⊢
                generalize w5.heap.size = g3 at HA2 ⊢
                go_upto_region 4 with (go_at_call 23; refine (A_first HA2.out.l2 (by have := HK.out; omega)).mono ?_; rewrite [HCL.out.2]; rintro e w7 ⟨rfl, hl7⟩; have HA3 := Aside0.mk ((HA2.out.below hl7).alloc2 (.cells (aStamp sx sy) 38) (.cells (aTick sq2 se) 34)); clear hl7)
                generalize (w7.alloc (.cells (aStamp sx sy) 38)).alloc (.cells (aTick sq2 se) 34) = w8 at HA3 ⊢
                generalize w7.heap.size + 1 = g6 at HA3 ⊢
                generalize w7.heap.size = g5 at HA3 ⊢
                have s0 : w8.cell? ⟨g3, 0, none⟩ = some (.int .i64 sx) := (HA3.out.ptr (g := g3) (C := aStamp sx sy) (t := 38) (by simp) 0).1
                have s1 : w8.cell? ⟨g3, 1, none⟩ = some (.int .i64 sy) := (HA3.out.ptr (g := g3) (C := aStamp sx sy) (t := 38) (by simp) 1).1
                have s2 : w8.cell? ⟨g5, 0, none⟩ = some (.int .i64 sx) := (HA3.out.ptr (g := g5) (C := aStamp sx sy) (t := 38) (by simp) 0).1
                have s3 : w8.cell? ⟨g5, 1, none⟩ = some (.int .i64 sy) := (HA3.out.ptr (g := g5) (C := aStamp sx sy) (t := 38) (by simp) 1).1
                cases sb
                · go_wp2
                  go_ret
                  exact ⟨rfl, _, H0.out, (HA3.out.mono (by omega)).sub (fun p hp => by simp [hp])⟩
                · go_wp2
                  go_ret
                  exact ⟨rfl, _, H0.out, (HA3.out.mono (by omega)).sub (fun p hp => by simp [hp])⟩
end Go.Proofs.Ytglekbbdbnpohaa.QLn
