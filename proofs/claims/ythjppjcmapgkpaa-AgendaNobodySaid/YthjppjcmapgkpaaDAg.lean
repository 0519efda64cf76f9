/- Agenda: the row's Len and Less. Written by a program of this repo (tools/gen_ag1.py). -/
import Derived.Test.YthjppjcmapgkpaaCAg
namespace Go.Proofs.Ythjppjcmapgkpaa.QAg
open Go.RowKit Go.Proofs.YthjppjcmapgkpaaW.PrintWords Go.Proofs.YthjppjcmapgkpaaW.PrintLast Go.Proofs.YthjppjcmapgkpaaW.PrintMore
set_option linter.unusedVariables false
set_option linter.unusedSimpArgs false
/-- The document's order as a function value. -/
abbrev fLess : Value := .func (.func 9) #[] #[]
theorem Len_calls {w : World} {b B : Nat} {f m v : Value} {nx : Int} {n : Nat} {e : Nat → En} (h : Hp w b B f m nx v n e) : Calls Try.prog 34 #[.pointer (some ⟨b, 0, none⟩)] w fun r w' => r = .returned (.int .i64 (n : Int)) ∧ w' = w := by
  obtain ⟨A, c, rfl, hc⟩ := h.form
  have c0 := h.cells.1
  clear h
  go_enter Try.func34, Try.ntmps34
  go_wp2
  go_ret
  exact ⟨rfl, rfl⟩
set_option maxRecDepth 100000 in
set_option maxHeartbeats 4000000 in
theorem Less_calls {w : World} {b B : Nat} {m v : Value} {nx : Int} {n : Nat} {e : Nat → En} (h : Hp w b B fLess m nx v n e) {i j : Nat} (hi : i < n) (hj : j < n) : Calls Try.prog 66 #[.pointer (some ⟨b, 0, none⟩), .int .i64 (i : Int), .int .i64 (j : Int)] w fun r w' => r = .returned (.bool (ltE (e i) (e j))) ∧ Below w.heap.size w w' := by
  obtain ⟨A, c, rfl, hc⟩ := h.form
  obtain ⟨gT, oT, rfl, p0⟩ := h.place hi
  have p1 := h.placeAt hj
  have c0 := h.cells.1
  have HI := Aside0.mk hi
  have HJ := Aside0.mk hj
  have b1 : (0 : Int) ≤ (i : Int) := Int.natCast_nonneg i
  have b2 : (i : Int) < (n : Int) := Int.ofNat_lt.2 hi
  have b3 : (0 : Int) ≤ (j : Int) := Int.natCast_nonneg j
  have b4 : (j : Int) < (n : Int) := Int.ofNat_lt.2 hj
  have ht : ((i : Int)).toNat = i := Int.toNat_natCast i
  have ht2 : ((j : Int)).toNat = j := Int.toNat_natCast j
  have HA := Aside0.mk h
  clear h hi hj
  go_enter Try.func66, Try.ntmps66
  go_upto_region 1 with fail
  go_quiet (fail)
  clear p0 p1 c0 b1 b2 b3 b4 ht ht2
  have HB := Aside0.mk (HA.out.below (pw_below_drewN (Below.refl _ _) nq))
  have HBV : Aside0 (Below w.heap.size w (w.drewN nq)) := ⟨pw_below_drewN (Below.refl _ _) nq⟩
  clear HA
  generalize w.drewN nq = w1 at HB HBV ⊢
  go_upto_region 2 with fail
  by_cases h1 : (e i).key < (e j).key
  · have K1 : Aside0 (decide ((e i).key < (e j).key) = true) := ⟨decide_eq_true h1⟩
    have HR : Aside0 (ltE (e i) (e j) = true) := ⟨by rw [ltE_iff]; exact Or.inl h1⟩
    clear h1
    refine wp_region_held_drew (S := fun w' => Hp w' b B fLess m nx (.slice (some ⟨gT, oT, none⟩) n c) n e) (by kernel_rfl) (HB.out.below (Below.refl _ _).drew) (fun hHeld => ?_)
    refine take_at (i := 0) (v := _) 24 rfl rfl (by kernel_rfl) (by kernel_rfl) (by kernel_rfl) (fun _ _ _ h => h) (Or.inl ⟨by rfl, fun w' hW => by have hq0 := hW.cells.2.1; have hq1 := (hW.entry HI.out).2.2.1; have hq2 := (hW.entry HI.out).2.2.2; have hq3 := (hW.entry HJ.out).2.2.1; have hq4 := (hW.entry HJ.out).2.2.2; first | (go_simp; done) | (go_simp; with_reducible rfl) | (go_simp; rfl)⟩) hHeld ?_
    try simp only [Act.put, List.setIfInBounds_toArray, List.set_cons_zero, List.set_cons_succ]
    refine take_at (i := 1) (v := _) 25 rfl rfl (by kernel_rfl) (by kernel_rfl) (by kernel_rfl) (fun _ _ _ h => h) (Or.inl ⟨by rfl, fun w' hW => by have hq0 := hW.cells.2.1; have hq1 := (hW.entry HI.out).2.2.1; have hq2 := (hW.entry HI.out).2.2.2; have hq3 := (hW.entry HJ.out).2.2.1; have hq4 := (hW.entry HJ.out).2.2.2; first | (go_simp; done) | (go_simp; with_reducible rfl) | (go_simp; rfl)⟩) hHeld ?_
    try simp only [Act.put, List.setIfInBounds_toArray, List.set_cons_zero, List.set_cons_succ]
    refine take_at (i := 2) (v := _) 26 rfl rfl (by kernel_rfl) (by kernel_rfl) (by kernel_rfl) (fun _ _ _ h => h) (Or.inl ⟨by rfl, fun w' hW => by have hq0 := hW.cells.2.1; have hq1 := (hW.entry HI.out).2.2.1; have hq2 := (hW.entry HI.out).2.2.2; have hq3 := (hW.entry HJ.out).2.2.1; have hq4 := (hW.entry HJ.out).2.2.2; first | (go_simp; done) | (go_simp; with_reducible rfl) | (go_simp; rfl)⟩) hHeld ?_
    try simp only [Act.put, List.setIfInBounds_toArray, List.set_cons_zero, List.set_cons_succ]
    refine take_at (i := 3) (v := _) 27 rfl rfl (by kernel_rfl) (by kernel_rfl) (by kernel_rfl) (fun _ _ _ h => h) (Or.inl ⟨by rfl, fun w' hW => by have hq0 := hW.cells.2.1; have hq1 := (hW.entry HI.out).2.2.1; have hq2 := (hW.entry HI.out).2.2.2; have hq3 := (hW.entry HJ.out).2.2.1; have hq4 := (hW.entry HJ.out).2.2.2; first | (go_simp; done) | (go_simp; with_reducible rfl) | (go_simp; rfl)⟩) hHeld ?_
    try simp only [Act.put, List.setIfInBounds_toArray, List.set_cons_zero, List.set_cons_succ]
    refine take_at (i := 4) (v := _) 28 rfl rfl (by kernel_rfl) (by kernel_rfl) (by kernel_rfl) (fun _ _ _ h => h) (Or.inl ⟨by rfl, fun w' hW => by have hq0 := hW.cells.2.1; have hq1 := (hW.entry HI.out).2.2.1; have hq2 := (hW.entry HI.out).2.2.2; have hq3 := (hW.entry HJ.out).2.2.1; have hq4 := (hW.entry HJ.out).2.2.2; first | (go_simp; done) | (go_simp; with_reducible rfl) | (go_simp; rfl)⟩) hHeld ?_
    try simp only [Act.put, List.setIfInBounds_toArray, List.set_cons_zero, List.set_cons_succ]
    refine take_at (i := 5) (v := _) 29 rfl rfl (by kernel_rfl) (by kernel_rfl) (by kernel_rfl) (fun _ _ _ h => h) (Or.inl ⟨by rfl, fun w' hW => by have hq0 := hW.cells.2.1; have hq1 := (hW.entry HI.out).2.2.1; have hq2 := (hW.entry HI.out).2.2.2; have hq3 := (hW.entry HJ.out).2.2.1; have hq4 := (hW.entry HJ.out).2.2.2; first | (go_simp; done) | (go_simp; with_reducible rfl) | (go_simp; rfl)⟩) hHeld ?_
    try simp only [Act.put, List.setIfInBounds_toArray, List.set_cons_zero, List.set_cons_succ]
    refine take_at (i := 6) (v := _) 30 rfl rfl (by kernel_rfl) (by kernel_rfl) (by kernel_rfl) (fun _ _ _ h => h) (Or.inl ⟨by rfl, fun w' hW => by have hq0 := hW.cells.2.1; have hq1 := (hW.entry HI.out).2.2.1; have hq2 := (hW.entry HI.out).2.2.2; have hq3 := (hW.entry HJ.out).2.2.1; have hq4 := (hW.entry HJ.out).2.2.2; first | (go_simp; done) | (go_simp; with_reducible rfl) | (go_simp; rfl)⟩) hHeld ?_
    try simp only [Act.put, List.setIfInBounds_toArray, List.set_cons_zero, List.set_cons_succ]
    refine take_at (i := 7) (v := _) 31 rfl rfl (by kernel_rfl) (by kernel_rfl) (by kernel_rfl) (fun _ _ _ h => h) (Or.inl ⟨by rfl, fun w' hW => by have hq0 := hW.cells.2.1; have hq1 := (hW.entry HI.out).2.2.1; have hq2 := (hW.entry HI.out).2.2.2; have hq3 := (hW.entry HJ.out).2.2.1; have hq4 := (hW.entry HJ.out).2.2.2; first | (go_simp; done) | (go_simp; with_reducible rfl) | (go_simp; rfl)⟩) hHeld ?_
    try simp only [Act.put, List.setIfInBounds_toArray, List.set_cons_zero, List.set_cons_succ]
    refine take_at (i := 8) (v := _) 32 rfl rfl (by kernel_rfl) (by kernel_rfl) (by kernel_rfl) (fun _ _ _ h => h) (Or.inl ⟨by rfl, fun w' hW => by have hq0 := hW.cells.2.1; have hq1 := (hW.entry HI.out).2.2.1; have hq2 := (hW.entry HI.out).2.2.2; have hq3 := (hW.entry HJ.out).2.2.1; have hq4 := (hW.entry HJ.out).2.2.2; first | (go_simp; done) | (go_simp; with_reducible rfl) | (go_simp; rfl)⟩) hHeld ?_
    try simp only [Act.put, List.setIfInBounds_toArray, List.set_cons_zero, List.set_cons_succ]
    refine take_at (i := 9) (v := _) 33 rfl rfl (by kernel_rfl) (by kernel_rfl) (by kernel_rfl) (fun _ _ _ h => h) (Or.inl ⟨by rfl, fun w' hW => by have hq0 := hW.cells.2.1; have hq1 := (hW.entry HI.out).2.2.1; have hq2 := (hW.entry HI.out).2.2.2; have hq3 := (hW.entry HJ.out).2.2.1; have hq4 := (hW.entry HJ.out).2.2.2; first | (go_simp; done) | (go_simp; with_reducible rfl) | (go_simp; rfl)⟩) hHeld ?_
    try simp only [Act.put, List.setIfInBounds_toArray, List.set_cons_zero, List.set_cons_succ]
    refine take_at (i := 10) (v := _) 34 rfl rfl (by kernel_rfl) (by kernel_rfl) (by kernel_rfl) (fun _ _ _ h => h) (Or.inl ⟨by rfl, fun w' hW => by have hq0 := hW.cells.2.1; have hq1 := (hW.entry HI.out).2.2.1; have hq2 := (hW.entry HI.out).2.2.2; have hq3 := (hW.entry HJ.out).2.2.1; have hq4 := (hW.entry HJ.out).2.2.2; first | (go_simp; done) | (go_simp; with_reducible rfl) | (go_simp; rfl)⟩) hHeld ?_
    try simp only [Act.put, List.setIfInBounds_toArray, List.set_cons_zero, List.set_cons_succ]
    refine take_at (i := 11) (v := _) 35 rfl rfl (by kernel_rfl) (by kernel_rfl) (by kernel_rfl) (fun _ _ _ h => h) (Or.inl ⟨by rfl, fun w' hW => by have hq0 := hW.cells.2.1; have hq1 := (hW.entry HI.out).2.2.1; have hq2 := (hW.entry HI.out).2.2.2; have hq3 := (hW.entry HJ.out).2.2.1; have hq4 := (hW.entry HJ.out).2.2.2; first | (go_simp; done) | (go_simp; with_reducible rfl) | (go_simp; rfl)⟩) hHeld ?_
    try simp only [Act.put, List.setIfInBounds_toArray, List.set_cons_zero, List.set_cons_succ]
    have HHa := Aside0.mk (HB.out.below (Below.refl _ _).drew)
    have HVa := Aside0.mk (HBV.out.trans (((Below.refl _ w1).drew).mono HBV.out.size))
    clear hHeld
    generalize w1.drew = wda at HHa HVa ⊢
    refine wpAnyH_ready (rs := [12]) (by kernel_rfl) (by simp) ?_
    refine AllReadyH.cons rfl (fun K hK => ?_) AllReadyH.nil
    go_simp
    go_wp2_with (go_at_call 9; refine (less_calls (e i).key (e i).mark (e j).key (e j).mark _).mono ?_; rewrite [K1.out]; rintro r wa ⟨rfl, hl⟩; have HXa := Aside0.mk (HHa.out.below hl); have HXaV := Aside0.mk (HVa.out.trans (hl.mono HVa.out.size)); clear hl)
    refine hK.out _ _ HXa.out (fun hHeld => ?_)
    clear hK K
    try simp only [Act.put, List.setIfInBounds_toArray, List.set_cons_zero, List.set_cons_succ]
    refine take_at (i := 13) (v := _) 23 rfl rfl (by kernel_rfl) (by kernel_rfl) (by kernel_rfl) (fun _ _ _ h => h) (Or.inl ⟨by rfl, fun w' hW => by have hq0 := hW.cells.2.1; have hq1 := (hW.entry HI.out).2.2.1; have hq2 := (hW.entry HI.out).2.2.2; have hq3 := (hW.entry HJ.out).2.2.1; have hq4 := (hW.entry HJ.out).2.2.2; first | (go_simp; done) | (go_simp; with_reducible rfl) | (go_simp; rfl)⟩) hHeld ?_
    try simp only [Act.put, List.setIfInBounds_toArray, List.set_cons_zero, List.set_cons_succ]
    refine wpAnyH_done (by kernel_rfl) ?_ _
    clear hHeld
    go_wp2
    go_ret
    exact ⟨by rw [HR.out]; rfl, HXaV.out⟩
  · have K1 : Aside0 (decide ((e i).key < (e j).key) = false) := ⟨decide_eq_false h1⟩
    have HN1 := Aside0.mk h1
    clear h1
    refine wp_region_held_drew (S := fun w' => Hp w' b B fLess m nx (.slice (some ⟨gT, oT, none⟩) n c) n e) (by kernel_rfl) (HB.out.below (Below.refl _ _).drew) (fun hHeld => ?_)
    refine take_at (i := 0) (v := _) 24 rfl rfl (by kernel_rfl) (by kernel_rfl) (by kernel_rfl) (fun _ _ _ h => h) (Or.inl ⟨by rfl, fun w' hW => by have hq0 := hW.cells.2.1; have hq1 := (hW.entry HI.out).2.2.1; have hq2 := (hW.entry HI.out).2.2.2; have hq3 := (hW.entry HJ.out).2.2.1; have hq4 := (hW.entry HJ.out).2.2.2; first | (go_simp; done) | (go_simp; with_reducible rfl) | (go_simp; rfl)⟩) hHeld ?_
    try simp only [Act.put, List.setIfInBounds_toArray, List.set_cons_zero, List.set_cons_succ]
    refine take_at (i := 1) (v := _) 25 rfl rfl (by kernel_rfl) (by kernel_rfl) (by kernel_rfl) (fun _ _ _ h => h) (Or.inl ⟨by rfl, fun w' hW => by have hq0 := hW.cells.2.1; have hq1 := (hW.entry HI.out).2.2.1; have hq2 := (hW.entry HI.out).2.2.2; have hq3 := (hW.entry HJ.out).2.2.1; have hq4 := (hW.entry HJ.out).2.2.2; first | (go_simp; done) | (go_simp; with_reducible rfl) | (go_simp; rfl)⟩) hHeld ?_
    try simp only [Act.put, List.setIfInBounds_toArray, List.set_cons_zero, List.set_cons_succ]
    refine take_at (i := 2) (v := _) 26 rfl rfl (by kernel_rfl) (by kernel_rfl) (by kernel_rfl) (fun _ _ _ h => h) (Or.inl ⟨by rfl, fun w' hW => by have hq0 := hW.cells.2.1; have hq1 := (hW.entry HI.out).2.2.1; have hq2 := (hW.entry HI.out).2.2.2; have hq3 := (hW.entry HJ.out).2.2.1; have hq4 := (hW.entry HJ.out).2.2.2; first | (go_simp; done) | (go_simp; with_reducible rfl) | (go_simp; rfl)⟩) hHeld ?_
    try simp only [Act.put, List.setIfInBounds_toArray, List.set_cons_zero, List.set_cons_succ]
    refine take_at (i := 3) (v := _) 27 rfl rfl (by kernel_rfl) (by kernel_rfl) (by kernel_rfl) (fun _ _ _ h => h) (Or.inl ⟨by rfl, fun w' hW => by have hq0 := hW.cells.2.1; have hq1 := (hW.entry HI.out).2.2.1; have hq2 := (hW.entry HI.out).2.2.2; have hq3 := (hW.entry HJ.out).2.2.1; have hq4 := (hW.entry HJ.out).2.2.2; first | (go_simp; done) | (go_simp; with_reducible rfl) | (go_simp; rfl)⟩) hHeld ?_
    try simp only [Act.put, List.setIfInBounds_toArray, List.set_cons_zero, List.set_cons_succ]
    refine take_at (i := 4) (v := _) 28 rfl rfl (by kernel_rfl) (by kernel_rfl) (by kernel_rfl) (fun _ _ _ h => h) (Or.inl ⟨by rfl, fun w' hW => by have hq0 := hW.cells.2.1; have hq1 := (hW.entry HI.out).2.2.1; have hq2 := (hW.entry HI.out).2.2.2; have hq3 := (hW.entry HJ.out).2.2.1; have hq4 := (hW.entry HJ.out).2.2.2; first | (go_simp; done) | (go_simp; with_reducible rfl) | (go_simp; rfl)⟩) hHeld ?_
    try simp only [Act.put, List.setIfInBounds_toArray, List.set_cons_zero, List.set_cons_succ]
    refine take_at (i := 5) (v := _) 29 rfl rfl (by kernel_rfl) (by kernel_rfl) (by kernel_rfl) (fun _ _ _ h => h) (Or.inl ⟨by rfl, fun w' hW => by have hq0 := hW.cells.2.1; have hq1 := (hW.entry HI.out).2.2.1; have hq2 := (hW.entry HI.out).2.2.2; have hq3 := (hW.entry HJ.out).2.2.1; have hq4 := (hW.entry HJ.out).2.2.2; first | (go_simp; done) | (go_simp; with_reducible rfl) | (go_simp; rfl)⟩) hHeld ?_
    try simp only [Act.put, List.setIfInBounds_toArray, List.set_cons_zero, List.set_cons_succ]
    refine take_at (i := 6) (v := _) 30 rfl rfl (by kernel_rfl) (by kernel_rfl) (by kernel_rfl) (fun _ _ _ h => h) (Or.inl ⟨by rfl, fun w' hW => by have hq0 := hW.cells.2.1; have hq1 := (hW.entry HI.out).2.2.1; have hq2 := (hW.entry HI.out).2.2.2; have hq3 := (hW.entry HJ.out).2.2.1; have hq4 := (hW.entry HJ.out).2.2.2; first | (go_simp; done) | (go_simp; with_reducible rfl) | (go_simp; rfl)⟩) hHeld ?_
    try simp only [Act.put, List.setIfInBounds_toArray, List.set_cons_zero, List.set_cons_succ]
    refine take_at (i := 7) (v := _) 31 rfl rfl (by kernel_rfl) (by kernel_rfl) (by kernel_rfl) (fun _ _ _ h => h) (Or.inl ⟨by rfl, fun w' hW => by have hq0 := hW.cells.2.1; have hq1 := (hW.entry HI.out).2.2.1; have hq2 := (hW.entry HI.out).2.2.2; have hq3 := (hW.entry HJ.out).2.2.1; have hq4 := (hW.entry HJ.out).2.2.2; first | (go_simp; done) | (go_simp; with_reducible rfl) | (go_simp; rfl)⟩) hHeld ?_
    try simp only [Act.put, List.setIfInBounds_toArray, List.set_cons_zero, List.set_cons_succ]
    refine take_at (i := 8) (v := _) 32 rfl rfl (by kernel_rfl) (by kernel_rfl) (by kernel_rfl) (fun _ _ _ h => h) (Or.inl ⟨by rfl, fun w' hW => by have hq0 := hW.cells.2.1; have hq1 := (hW.entry HI.out).2.2.1; have hq2 := (hW.entry HI.out).2.2.2; have hq3 := (hW.entry HJ.out).2.2.1; have hq4 := (hW.entry HJ.out).2.2.2; first | (go_simp; done) | (go_simp; with_reducible rfl) | (go_simp; rfl)⟩) hHeld ?_
    try simp only [Act.put, List.setIfInBounds_toArray, List.set_cons_zero, List.set_cons_succ]
    refine take_at (i := 9) (v := _) 33 rfl rfl (by kernel_rfl) (by kernel_rfl) (by kernel_rfl) (fun _ _ _ h => h) (Or.inl ⟨by rfl, fun w' hW => by have hq0 := hW.cells.2.1; have hq1 := (hW.entry HI.out).2.2.1; have hq2 := (hW.entry HI.out).2.2.2; have hq3 := (hW.entry HJ.out).2.2.1; have hq4 := (hW.entry HJ.out).2.2.2; first | (go_simp; done) | (go_simp; with_reducible rfl) | (go_simp; rfl)⟩) hHeld ?_
    try simp only [Act.put, List.setIfInBounds_toArray, List.set_cons_zero, List.set_cons_succ]
    refine take_at (i := 10) (v := _) 34 rfl rfl (by kernel_rfl) (by kernel_rfl) (by kernel_rfl) (fun _ _ _ h => h) (Or.inl ⟨by rfl, fun w' hW => by have hq0 := hW.cells.2.1; have hq1 := (hW.entry HI.out).2.2.1; have hq2 := (hW.entry HI.out).2.2.2; have hq3 := (hW.entry HJ.out).2.2.1; have hq4 := (hW.entry HJ.out).2.2.2; first | (go_simp; done) | (go_simp; with_reducible rfl) | (go_simp; rfl)⟩) hHeld ?_
    try simp only [Act.put, List.setIfInBounds_toArray, List.set_cons_zero, List.set_cons_succ]
    refine take_at (i := 11) (v := _) 35 rfl rfl (by kernel_rfl) (by kernel_rfl) (by kernel_rfl) (fun _ _ _ h => h) (Or.inl ⟨by rfl, fun w' hW => by have hq0 := hW.cells.2.1; have hq1 := (hW.entry HI.out).2.2.1; have hq2 := (hW.entry HI.out).2.2.2; have hq3 := (hW.entry HJ.out).2.2.1; have hq4 := (hW.entry HJ.out).2.2.2; first | (go_simp; done) | (go_simp; with_reducible rfl) | (go_simp; rfl)⟩) hHeld ?_
    try simp only [Act.put, List.setIfInBounds_toArray, List.set_cons_zero, List.set_cons_succ]
    have HHa := Aside0.mk (HB.out.below (Below.refl _ _).drew)
    have HVa := Aside0.mk (HBV.out.trans (((Below.refl _ w1).drew).mono HBV.out.size))
    clear hHeld
    generalize w1.drew = wda at HHa HVa ⊢
    refine wpAnyH_ready (rs := [12]) (by kernel_rfl) (by simp) ?_
    refine AllReadyH.cons rfl (fun K hK => ?_) AllReadyH.nil
    go_simp
    go_wp2_with (go_at_call 9; refine (less_calls (e i).key (e i).mark (e j).key (e j).mark _).mono ?_; rewrite [K1.out]; rintro r wa ⟨rfl, hl⟩; have HXa := Aside0.mk (HHa.out.below hl); have HXaV := Aside0.mk (HVa.out.trans (hl.mono HVa.out.size)); clear hl)
    refine hK.out _ _ HXa.out (fun hHeld => ?_)
    clear hK K
    try simp only [Act.put, List.setIfInBounds_toArray, List.set_cons_zero, List.set_cons_succ]
    refine take_at (i := 13) (v := _) 23 rfl rfl (by kernel_rfl) (by kernel_rfl) (by kernel_rfl) (fun _ _ _ h => h) (Or.inl ⟨by rfl, fun w' hW => by have hq0 := hW.cells.2.1; have hq1 := (hW.entry HI.out).2.2.1; have hq2 := (hW.entry HI.out).2.2.2; have hq3 := (hW.entry HJ.out).2.2.1; have hq4 := (hW.entry HJ.out).2.2.2; first | (go_simp; done) | (go_simp; with_reducible rfl) | (go_simp; rfl)⟩) hHeld ?_
    try simp only [Act.put, List.setIfInBounds_toArray, List.set_cons_zero, List.set_cons_succ]
    refine wpAnyH_done (by kernel_rfl) ?_ _
    clear hHeld
    go_upto_region 4 with fail
    by_cases h2 : (e j).key < (e i).key
    · have K2 : Aside0 (decide ((e j).key < (e i).key) = true) := ⟨decide_eq_true h2⟩
      have HR : Aside0 (ltE (e i) (e j) = false) := ⟨by rw [ltE_not]; omega⟩
      clear h2
      refine wp_region_held_drew (S := fun w' => Hp w' b B fLess m nx (.slice (some ⟨gT, oT, none⟩) n c) n e) (by kernel_rfl) (HXa.out.below (Below.refl _ _).drew) (fun hHeld => ?_)
      refine take_at (i := 0) (v := _) 38 rfl rfl (by kernel_rfl) (by kernel_rfl) (by kernel_rfl) (fun _ _ _ h => h) (Or.inl ⟨by rfl, fun w' hW => by have hq0 := hW.cells.2.1; have hq1 := (hW.entry HI.out).2.2.1; have hq2 := (hW.entry HI.out).2.2.2; have hq3 := (hW.entry HJ.out).2.2.1; have hq4 := (hW.entry HJ.out).2.2.2; first | (go_simp; done) | (go_simp; with_reducible rfl) | (go_simp; rfl)⟩) hHeld ?_
      try simp only [Act.put, List.setIfInBounds_toArray, List.set_cons_zero, List.set_cons_succ]
      refine take_at (i := 1) (v := _) 39 rfl rfl (by kernel_rfl) (by kernel_rfl) (by kernel_rfl) (fun _ _ _ h => h) (Or.inl ⟨by rfl, fun w' hW => by have hq0 := hW.cells.2.1; have hq1 := (hW.entry HI.out).2.2.1; have hq2 := (hW.entry HI.out).2.2.2; have hq3 := (hW.entry HJ.out).2.2.1; have hq4 := (hW.entry HJ.out).2.2.2; first | (go_simp; done) | (go_simp; with_reducible rfl) | (go_simp; rfl)⟩) hHeld ?_
      try simp only [Act.put, List.setIfInBounds_toArray, List.set_cons_zero, List.set_cons_succ]
      refine take_at (i := 2) (v := _) 40 rfl rfl (by kernel_rfl) (by kernel_rfl) (by kernel_rfl) (fun _ _ _ h => h) (Or.inl ⟨by rfl, fun w' hW => by have hq0 := hW.cells.2.1; have hq1 := (hW.entry HI.out).2.2.1; have hq2 := (hW.entry HI.out).2.2.2; have hq3 := (hW.entry HJ.out).2.2.1; have hq4 := (hW.entry HJ.out).2.2.2; first | (go_simp; done) | (go_simp; with_reducible rfl) | (go_simp; rfl)⟩) hHeld ?_
      try simp only [Act.put, List.setIfInBounds_toArray, List.set_cons_zero, List.set_cons_succ]
      refine take_at (i := 3) (v := _) 41 rfl rfl (by kernel_rfl) (by kernel_rfl) (by kernel_rfl) (fun _ _ _ h => h) (Or.inl ⟨by rfl, fun w' hW => by have hq0 := hW.cells.2.1; have hq1 := (hW.entry HI.out).2.2.1; have hq2 := (hW.entry HI.out).2.2.2; have hq3 := (hW.entry HJ.out).2.2.1; have hq4 := (hW.entry HJ.out).2.2.2; first | (go_simp; done) | (go_simp; with_reducible rfl) | (go_simp; rfl)⟩) hHeld ?_
      try simp only [Act.put, List.setIfInBounds_toArray, List.set_cons_zero, List.set_cons_succ]
      refine take_at (i := 4) (v := _) 42 rfl rfl (by kernel_rfl) (by kernel_rfl) (by kernel_rfl) (fun _ _ _ h => h) (Or.inl ⟨by rfl, fun w' hW => by have hq0 := hW.cells.2.1; have hq1 := (hW.entry HI.out).2.2.1; have hq2 := (hW.entry HI.out).2.2.2; have hq3 := (hW.entry HJ.out).2.2.1; have hq4 := (hW.entry HJ.out).2.2.2; first | (go_simp; done) | (go_simp; with_reducible rfl) | (go_simp; rfl)⟩) hHeld ?_
      try simp only [Act.put, List.setIfInBounds_toArray, List.set_cons_zero, List.set_cons_succ]
      refine take_at (i := 5) (v := _) 43 rfl rfl (by kernel_rfl) (by kernel_rfl) (by kernel_rfl) (fun _ _ _ h => h) (Or.inl ⟨by rfl, fun w' hW => by have hq0 := hW.cells.2.1; have hq1 := (hW.entry HI.out).2.2.1; have hq2 := (hW.entry HI.out).2.2.2; have hq3 := (hW.entry HJ.out).2.2.1; have hq4 := (hW.entry HJ.out).2.2.2; first | (go_simp; done) | (go_simp; with_reducible rfl) | (go_simp; rfl)⟩) hHeld ?_
      try simp only [Act.put, List.setIfInBounds_toArray, List.set_cons_zero, List.set_cons_succ]
      refine take_at (i := 6) (v := _) 44 rfl rfl (by kernel_rfl) (by kernel_rfl) (by kernel_rfl) (fun _ _ _ h => h) (Or.inl ⟨by rfl, fun w' hW => by have hq0 := hW.cells.2.1; have hq1 := (hW.entry HI.out).2.2.1; have hq2 := (hW.entry HI.out).2.2.2; have hq3 := (hW.entry HJ.out).2.2.1; have hq4 := (hW.entry HJ.out).2.2.2; first | (go_simp; done) | (go_simp; with_reducible rfl) | (go_simp; rfl)⟩) hHeld ?_
      try simp only [Act.put, List.setIfInBounds_toArray, List.set_cons_zero, List.set_cons_succ]
      refine take_at (i := 7) (v := _) 45 rfl rfl (by kernel_rfl) (by kernel_rfl) (by kernel_rfl) (fun _ _ _ h => h) (Or.inl ⟨by rfl, fun w' hW => by have hq0 := hW.cells.2.1; have hq1 := (hW.entry HI.out).2.2.1; have hq2 := (hW.entry HI.out).2.2.2; have hq3 := (hW.entry HJ.out).2.2.1; have hq4 := (hW.entry HJ.out).2.2.2; first | (go_simp; done) | (go_simp; with_reducible rfl) | (go_simp; rfl)⟩) hHeld ?_
      try simp only [Act.put, List.setIfInBounds_toArray, List.set_cons_zero, List.set_cons_succ]
      refine take_at (i := 8) (v := _) 46 rfl rfl (by kernel_rfl) (by kernel_rfl) (by kernel_rfl) (fun _ _ _ h => h) (Or.inl ⟨by rfl, fun w' hW => by have hq0 := hW.cells.2.1; have hq1 := (hW.entry HI.out).2.2.1; have hq2 := (hW.entry HI.out).2.2.2; have hq3 := (hW.entry HJ.out).2.2.1; have hq4 := (hW.entry HJ.out).2.2.2; first | (go_simp; done) | (go_simp; with_reducible rfl) | (go_simp; rfl)⟩) hHeld ?_
      try simp only [Act.put, List.setIfInBounds_toArray, List.set_cons_zero, List.set_cons_succ]
      refine take_at (i := 9) (v := _) 47 rfl rfl (by kernel_rfl) (by kernel_rfl) (by kernel_rfl) (fun _ _ _ h => h) (Or.inl ⟨by rfl, fun w' hW => by have hq0 := hW.cells.2.1; have hq1 := (hW.entry HI.out).2.2.1; have hq2 := (hW.entry HI.out).2.2.2; have hq3 := (hW.entry HJ.out).2.2.1; have hq4 := (hW.entry HJ.out).2.2.2; first | (go_simp; done) | (go_simp; with_reducible rfl) | (go_simp; rfl)⟩) hHeld ?_
      try simp only [Act.put, List.setIfInBounds_toArray, List.set_cons_zero, List.set_cons_succ]
      refine take_at (i := 10) (v := _) 48 rfl rfl (by kernel_rfl) (by kernel_rfl) (by kernel_rfl) (fun _ _ _ h => h) (Or.inl ⟨by rfl, fun w' hW => by have hq0 := hW.cells.2.1; have hq1 := (hW.entry HI.out).2.2.1; have hq2 := (hW.entry HI.out).2.2.2; have hq3 := (hW.entry HJ.out).2.2.1; have hq4 := (hW.entry HJ.out).2.2.2; first | (go_simp; done) | (go_simp; with_reducible rfl) | (go_simp; rfl)⟩) hHeld ?_
      try simp only [Act.put, List.setIfInBounds_toArray, List.set_cons_zero, List.set_cons_succ]
      refine take_at (i := 11) (v := _) 49 rfl rfl (by kernel_rfl) (by kernel_rfl) (by kernel_rfl) (fun _ _ _ h => h) (Or.inl ⟨by rfl, fun w' hW => by have hq0 := hW.cells.2.1; have hq1 := (hW.entry HI.out).2.2.1; have hq2 := (hW.entry HI.out).2.2.2; have hq3 := (hW.entry HJ.out).2.2.1; have hq4 := (hW.entry HJ.out).2.2.2; first | (go_simp; done) | (go_simp; with_reducible rfl) | (go_simp; rfl)⟩) hHeld ?_
      try simp only [Act.put, List.setIfInBounds_toArray, List.set_cons_zero, List.set_cons_succ]
      have HHb := Aside0.mk (HXa.out.below (Below.refl _ _).drew)
      have HVb := Aside0.mk (HXaV.out.trans (((Below.refl _ wa).drew).mono HXaV.out.size))
      clear hHeld
      generalize wa.drew = wdb at HHb HVb ⊢
      refine wpAnyH_ready (rs := [12]) (by kernel_rfl) (by simp) ?_
      refine AllReadyH.cons rfl (fun K hK => ?_) AllReadyH.nil
      go_simp
      go_wp2_with (go_at_call 9; refine (less_calls (e j).key (e j).mark (e i).key (e i).mark _).mono ?_; rewrite [K2.out]; rintro r wb ⟨rfl, hl⟩; have HXb := Aside0.mk (HHb.out.below hl); have HXbV := Aside0.mk (HVb.out.trans (hl.mono HVb.out.size)); clear hl)
      refine hK.out _ _ HXb.out (fun hHeld => ?_)
      clear hK K
      try simp only [Act.put, List.setIfInBounds_toArray, List.set_cons_zero, List.set_cons_succ]
      refine take_at (i := 13) (v := _) 37 rfl rfl (by kernel_rfl) (by kernel_rfl) (by kernel_rfl) (fun _ _ _ h => h) (Or.inl ⟨by rfl, fun w' hW => by have hq0 := hW.cells.2.1; have hq1 := (hW.entry HI.out).2.2.1; have hq2 := (hW.entry HI.out).2.2.2; have hq3 := (hW.entry HJ.out).2.2.1; have hq4 := (hW.entry HJ.out).2.2.2; first | (go_simp; done) | (go_simp; with_reducible rfl) | (go_simp; rfl)⟩) hHeld ?_
      try simp only [Act.put, List.setIfInBounds_toArray, List.set_cons_zero, List.set_cons_succ]
      refine wpAnyH_done (by kernel_rfl) ?_ _
      clear hHeld
      go_wp2
      go_ret
      exact ⟨by rw [HR.out]; rfl, HXbV.out⟩
    · have K2 : Aside0 (decide ((e j).key < (e i).key) = false) := ⟨decide_eq_false h2⟩
      have HR : Aside0 (ltE (e i) (e j) = decide ((e i).id < (e j).id)) := ⟨by
        have h1 : ¬ (e i).key < (e j).key := by have := HN1.out; omega
        have h2 : (e i).key = (e j).key := by have h3 := K2.out; rw [decide_eq_false_iff_not] at h3; omega
        unfold ltE
        rw [decide_eq_false h1, Bool.false_or, decide_eq_true h2, Bool.true_and]⟩
      clear h2
      refine wp_region_held_drew (S := fun w' => Hp w' b B fLess m nx (.slice (some ⟨gT, oT, none⟩) n c) n e) (by kernel_rfl) (HXa.out.below (Below.refl _ _).drew) (fun hHeld => ?_)
      refine take_at (i := 0) (v := _) 38 rfl rfl (by kernel_rfl) (by kernel_rfl) (by kernel_rfl) (fun _ _ _ h => h) (Or.inl ⟨by rfl, fun w' hW => by have hq0 := hW.cells.2.1; have hq1 := (hW.entry HI.out).2.2.1; have hq2 := (hW.entry HI.out).2.2.2; have hq3 := (hW.entry HJ.out).2.2.1; have hq4 := (hW.entry HJ.out).2.2.2; first | (go_simp; done) | (go_simp; with_reducible rfl) | (go_simp; rfl)⟩) hHeld ?_
      try simp only [Act.put, List.setIfInBounds_toArray, List.set_cons_zero, List.set_cons_succ]
      refine take_at (i := 1) (v := _) 39 rfl rfl (by kernel_rfl) (by kernel_rfl) (by kernel_rfl) (fun _ _ _ h => h) (Or.inl ⟨by rfl, fun w' hW => by have hq0 := hW.cells.2.1; have hq1 := (hW.entry HI.out).2.2.1; have hq2 := (hW.entry HI.out).2.2.2; have hq3 := (hW.entry HJ.out).2.2.1; have hq4 := (hW.entry HJ.out).2.2.2; first | (go_simp; done) | (go_simp; with_reducible rfl) | (go_simp; rfl)⟩) hHeld ?_
      try simp only [Act.put, List.setIfInBounds_toArray, List.set_cons_zero, List.set_cons_succ]
      refine take_at (i := 2) (v := _) 40 rfl rfl (by kernel_rfl) (by kernel_rfl) (by kernel_rfl) (fun _ _ _ h => h) (Or.inl ⟨by rfl, fun w' hW => by have hq0 := hW.cells.2.1; have hq1 := (hW.entry HI.out).2.2.1; have hq2 := (hW.entry HI.out).2.2.2; have hq3 := (hW.entry HJ.out).2.2.1; have hq4 := (hW.entry HJ.out).2.2.2; first | (go_simp; done) | (go_simp; with_reducible rfl) | (go_simp; rfl)⟩) hHeld ?_
      try simp only [Act.put, List.setIfInBounds_toArray, List.set_cons_zero, List.set_cons_succ]
      refine take_at (i := 3) (v := _) 41 rfl rfl (by kernel_rfl) (by kernel_rfl) (by kernel_rfl) (fun _ _ _ h => h) (Or.inl ⟨by rfl, fun w' hW => by have hq0 := hW.cells.2.1; have hq1 := (hW.entry HI.out).2.2.1; have hq2 := (hW.entry HI.out).2.2.2; have hq3 := (hW.entry HJ.out).2.2.1; have hq4 := (hW.entry HJ.out).2.2.2; first | (go_simp; done) | (go_simp; with_reducible rfl) | (go_simp; rfl)⟩) hHeld ?_
      try simp only [Act.put, List.setIfInBounds_toArray, List.set_cons_zero, List.set_cons_succ]
      refine take_at (i := 4) (v := _) 42 rfl rfl (by kernel_rfl) (by kernel_rfl) (by kernel_rfl) (fun _ _ _ h => h) (Or.inl ⟨by rfl, fun w' hW => by have hq0 := hW.cells.2.1; have hq1 := (hW.entry HI.out).2.2.1; have hq2 := (hW.entry HI.out).2.2.2; have hq3 := (hW.entry HJ.out).2.2.1; have hq4 := (hW.entry HJ.out).2.2.2; first | (go_simp; done) | (go_simp; with_reducible rfl) | (go_simp; rfl)⟩) hHeld ?_
      try simp only [Act.put, List.setIfInBounds_toArray, List.set_cons_zero, List.set_cons_succ]
      refine take_at (i := 5) (v := _) 43 rfl rfl (by kernel_rfl) (by kernel_rfl) (by kernel_rfl) (fun _ _ _ h => h) (Or.inl ⟨by rfl, fun w' hW => by have hq0 := hW.cells.2.1; have hq1 := (hW.entry HI.out).2.2.1; have hq2 := (hW.entry HI.out).2.2.2; have hq3 := (hW.entry HJ.out).2.2.1; have hq4 := (hW.entry HJ.out).2.2.2; first | (go_simp; done) | (go_simp; with_reducible rfl) | (go_simp; rfl)⟩) hHeld ?_
      try simp only [Act.put, List.setIfInBounds_toArray, List.set_cons_zero, List.set_cons_succ]
      refine take_at (i := 6) (v := _) 44 rfl rfl (by kernel_rfl) (by kernel_rfl) (by kernel_rfl) (fun _ _ _ h => h) (Or.inl ⟨by rfl, fun w' hW => by have hq0 := hW.cells.2.1; have hq1 := (hW.entry HI.out).2.2.1; have hq2 := (hW.entry HI.out).2.2.2; have hq3 := (hW.entry HJ.out).2.2.1; have hq4 := (hW.entry HJ.out).2.2.2; first | (go_simp; done) | (go_simp; with_reducible rfl) | (go_simp; rfl)⟩) hHeld ?_
      try simp only [Act.put, List.setIfInBounds_toArray, List.set_cons_zero, List.set_cons_succ]
      refine take_at (i := 7) (v := _) 45 rfl rfl (by kernel_rfl) (by kernel_rfl) (by kernel_rfl) (fun _ _ _ h => h) (Or.inl ⟨by rfl, fun w' hW => by have hq0 := hW.cells.2.1; have hq1 := (hW.entry HI.out).2.2.1; have hq2 := (hW.entry HI.out).2.2.2; have hq3 := (hW.entry HJ.out).2.2.1; have hq4 := (hW.entry HJ.out).2.2.2; first | (go_simp; done) | (go_simp; with_reducible rfl) | (go_simp; rfl)⟩) hHeld ?_
      try simp only [Act.put, List.setIfInBounds_toArray, List.set_cons_zero, List.set_cons_succ]
      refine take_at (i := 8) (v := _) 46 rfl rfl (by kernel_rfl) (by kernel_rfl) (by kernel_rfl) (fun _ _ _ h => h) (Or.inl ⟨by rfl, fun w' hW => by have hq0 := hW.cells.2.1; have hq1 := (hW.entry HI.out).2.2.1; have hq2 := (hW.entry HI.out).2.2.2; have hq3 := (hW.entry HJ.out).2.2.1; have hq4 := (hW.entry HJ.out).2.2.2; first | (go_simp; done) | (go_simp; with_reducible rfl) | (go_simp; rfl)⟩) hHeld ?_
      try simp only [Act.put, List.setIfInBounds_toArray, List.set_cons_zero, List.set_cons_succ]
      refine take_at (i := 9) (v := _) 47 rfl rfl (by kernel_rfl) (by kernel_rfl) (by kernel_rfl) (fun _ _ _ h => h) (Or.inl ⟨by rfl, fun w' hW => by have hq0 := hW.cells.2.1; have hq1 := (hW.entry HI.out).2.2.1; have hq2 := (hW.entry HI.out).2.2.2; have hq3 := (hW.entry HJ.out).2.2.1; have hq4 := (hW.entry HJ.out).2.2.2; first | (go_simp; done) | (go_simp; with_reducible rfl) | (go_simp; rfl)⟩) hHeld ?_
      try simp only [Act.put, List.setIfInBounds_toArray, List.set_cons_zero, List.set_cons_succ]
      refine take_at (i := 10) (v := _) 48 rfl rfl (by kernel_rfl) (by kernel_rfl) (by kernel_rfl) (fun _ _ _ h => h) (Or.inl ⟨by rfl, fun w' hW => by have hq0 := hW.cells.2.1; have hq1 := (hW.entry HI.out).2.2.1; have hq2 := (hW.entry HI.out).2.2.2; have hq3 := (hW.entry HJ.out).2.2.1; have hq4 := (hW.entry HJ.out).2.2.2; first | (go_simp; done) | (go_simp; with_reducible rfl) | (go_simp; rfl)⟩) hHeld ?_
      try simp only [Act.put, List.setIfInBounds_toArray, List.set_cons_zero, List.set_cons_succ]
      refine take_at (i := 11) (v := _) 49 rfl rfl (by kernel_rfl) (by kernel_rfl) (by kernel_rfl) (fun _ _ _ h => h) (Or.inl ⟨by rfl, fun w' hW => by have hq0 := hW.cells.2.1; have hq1 := (hW.entry HI.out).2.2.1; have hq2 := (hW.entry HI.out).2.2.2; have hq3 := (hW.entry HJ.out).2.2.1; have hq4 := (hW.entry HJ.out).2.2.2; first | (go_simp; done) | (go_simp; with_reducible rfl) | (go_simp; rfl)⟩) hHeld ?_
      try simp only [Act.put, List.setIfInBounds_toArray, List.set_cons_zero, List.set_cons_succ]
      have HHb := Aside0.mk (HXa.out.below (Below.refl _ _).drew)
      have HVb := Aside0.mk (HXaV.out.trans (((Below.refl _ wa).drew).mono HXaV.out.size))
      clear hHeld
      generalize wa.drew = wdb at HHb HVb ⊢
      refine wpAnyH_ready (rs := [12]) (by kernel_rfl) (by simp) ?_
      refine AllReadyH.cons rfl (fun K hK => ?_) AllReadyH.nil
      go_simp
      go_wp2_with (go_at_call 9; refine (less_calls (e j).key (e j).mark (e i).key (e i).mark _).mono ?_; rewrite [K2.out]; rintro r wb ⟨rfl, hl⟩; have HXb := Aside0.mk (HHb.out.below hl); have HXbV := Aside0.mk (HVb.out.trans (hl.mono HVb.out.size)); clear hl)
      refine hK.out _ _ HXb.out (fun hHeld => ?_)
      clear hK K
      try simp only [Act.put, List.setIfInBounds_toArray, List.set_cons_zero, List.set_cons_succ]
      refine take_at (i := 13) (v := _) 37 rfl rfl (by kernel_rfl) (by kernel_rfl) (by kernel_rfl) (fun _ _ _ h => h) (Or.inl ⟨by rfl, fun w' hW => by have hq0 := hW.cells.2.1; have hq1 := (hW.entry HI.out).2.2.1; have hq2 := (hW.entry HI.out).2.2.2; have hq3 := (hW.entry HJ.out).2.2.1; have hq4 := (hW.entry HJ.out).2.2.2; first | (go_simp; done) | (go_simp; with_reducible rfl) | (go_simp; rfl)⟩) hHeld ?_
      try simp only [Act.put, List.setIfInBounds_toArray, List.set_cons_zero, List.set_cons_succ]
      refine wpAnyH_done (by kernel_rfl) ?_ _
      clear hHeld
      go_upto_region 6 with fail
      have i0 := (HXb.out.entry HI.out).1
      have i1 := (HXb.out.entry HJ.out).1
      go_quiet (fail)
      have HZ : Aside0 (Below w.heap.size w (wb.drewN nq)) := ⟨HXbV.out.trans ((pw_below_drewN (Below.refl _ _) nq).mono HXbV.out.size)⟩
      go_wp2
      go_ret
      exact ⟨by rw [HR.out]; rfl, HZ.out⟩
end Go.Proofs.Ythjppjcmapgkpaa.QAg
