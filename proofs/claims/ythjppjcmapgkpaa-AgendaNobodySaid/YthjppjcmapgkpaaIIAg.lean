/- Agenda: the law's alive. Written by a program of this repo (tools/gen_ag13.py). -/
import Derived.Test.YthjppjcmapgkpaaHHAg
namespace Go.Proofs.Ythjppjcmapgkpaa.QAg
open Go.RowKit Go.Proofs.YthjppjcmapgkpaaW.PrintWords Go.Proofs.YthjppjcmapgkpaaW.PrintLast Go.Proofs.YthjppjcmapgkpaaW.PrintMore
set_option linter.unusedVariables false
set_option linter.unusedSimpArgs false
/-- One agenda, made since w0. -/
structure Aw (w0 : World) (b mb B : Nat) (nx : Int) (M : List En) (w : World) : Prop where
  ax : Ax w b mb B nx M
  be : Below w0.heap.size w0 w
  ge : w0.heap.size ≤ b ∧ w0.heap.size ≤ mb ∧ w0.heap.size ≤ B
section
variable {w0 w w' : World} {b mb B : Nat} {nx nx' : Int} {M M' : List En}
theorem Aw.below (h : Aw w0 b mb B nx M w) (k : Below w.heap.size w w') : Aw w0 b mb B nx M w' := ⟨h.ax.below k, h.be.trans (k.mono h.be.size), h.ge⟩
theorem Aw.ag (h : Aw w0 b mb B nx M w) (k : Ag b mb B w w') (ha : Ax w' b mb B nx' M') : Aw w0 b mb B nx' M' w' := ⟨ha, h.be.trans (k.below h.ge.1 h.ge.2.1 h.ge.2.2 h.be.size), h.ge⟩
theorem Ax.box {g : Nat} {C : Array Value} (h : Ax w b mb B nx M) (k : Ag b mb B w w') (hg : w.heap[g]? = some (.cells C 27 (0, 0))) : w'.heap[g]? = some (.cells C 27 (0, 0)) := by
  obtain ⟨⟨Cb, hb⟩, es, cl, hm⟩ := h.blks
  refine k.box hg (fun hc => ?_) (fun hc => ?_) ⟨by decide, by decide⟩
  · rw [hc, hb] at hg
    injection hg with hg
    injection hg with _ hg
    exact absurd hg (by decide)
  · rw [hc, hm] at hg
    cases hg
end
set_option maxRecDepth 100000 in
set_option maxHeartbeats 4000000 in
theorem alive_calls (w : World) : Calls Try.prog 13 #[] w fun r w' => r = .returned (.bool true) ∧ Below w.heap.size w w' := by
  go_enter Try.func13, Try.ntmps13
  go_upto_region 4 with (go_at_call 8; refine (New_ax _).mono ?_; rintro r w1 ⟨rfl, hl, hx⟩; have H1 : Aside0 (Aw w (w.heap.size + 1) w.heap.size (w.heap.size + 2) 1 [] w1) := ⟨hx, hl, by omega, by omega, by omega⟩; clear hl hx)
  generalize w.heap.size + 1 = b at H1 ⊢
  generalize w.heap.size + 2 = B at H1 ⊢
  obtain ⟨mb, hmb⟩ : ∃ mb, w.heap.size = mb := ⟨_, rfl⟩
  replace H1 : Aside0 (Aw w b mb B 1 [] w1) := ⟨by rw [← hmb]; exact H1.out⟩
  clear hmb
  go_upto_region 5 with (first | (go_at_call 31; refine (thing_calls 5 _).mono ?_; rintro r wt1 ⟨rfl, hl⟩; have HT1 := Aside0.mk (H1.out.below hl); clear hl) | (go_at_call 15; refine (Push_ax HT1.out.ax (by decide) 5 0).mono ?_; rintro r wp1 ⟨rfl, g1, hx, hg⟩; have HP1 := Aside0.mk (HT1.out.ag hg hx); clear hx hg))
  go_upto_region 6 with (first | (go_at_call 31; refine (thing_calls 3 _).mono ?_; rintro r wt2 ⟨rfl, hl⟩; have HT2 := Aside0.mk (HP1.out.below hl); clear hl) | (go_at_call 15; refine (Push_ax HT2.out.ax (by decide) 3 0).mono ?_; rintro r wp2 ⟨rfl, g2, hx, hg⟩; have HP2 := Aside0.mk (HT2.out.ag hg hx); clear hx hg))
  go_upto_region 7 with (first | (go_at_call 31; refine (thing_calls 5 _).mono ?_; rintro r wt3 ⟨rfl, hl⟩; have HT3 := Aside0.mk (HP2.out.below hl); clear hl) | (go_at_call 15; refine (Push_ax HT3.out.ax (by decide) 5 0).mono ?_; rintro r wp3 ⟨rfl, g3, hx, hg⟩; have HP3 := Aside0.mk (HT3.out.ag hg hx); clear hx hg))
  have H3 : Aside0 (Aw w b mb B 4 [⟨g1, 1, 5, 0⟩, ⟨g2, 2, 3, 0⟩, ⟨g3, 3, 5, 0⟩] wp3) := ⟨HP3.out⟩
  clear HP1 HP2 HP3 HT1 HT2 HT3
  have hb1 : best [⟨g1, 1, 5, 0⟩, ⟨g2, 2, 3, 0⟩, ⟨g3, 3, 5, 0⟩] = some ⟨g2, 2, 3, 0⟩ := rfl
  have HBA := Aside0.mk hb1
  clear hb1
  go_upto_region 8 with (go_at_call 19; refine (First_some H3.out.ax HBA.out).mono ?_; rintro r w4 ⟨rfl, hl⟩; have H4 := Aside0.mk (H3.out.below hl); clear hl)
  have H5 := Aside0.mk (H4.out.below ((Below.refl _ _).alloc (Nat.le_refl _) (.cells (aT 3 0) 27)))
  have HG4 : Aside0 ((w4.alloc (.cells (aT 3 0) 27)).heap[w4.heap.size]? = some (.cells (aT 3 0) 27 (0, 0))) := ⟨World.alloc_heap_new _ _⟩
  try change Code.wp _ _ _ _ (w4.alloc (.cells (aT 3 0) 27))
  generalize w4.alloc (.cells (aT 3 0) 27) = w5 at H5 HG4 ⊢
  generalize w4.heap.size = g4 at HG4 ⊢
  clear H3 H4 HBA
  have HAT : Aside0 (atM [⟨g1, 1, 5, 0⟩, ⟨g2, 2, 3, 0⟩, ⟨g3, 3, 5, 0⟩] 2 = some ⟨g2, 2, 3, 0⟩) := ⟨rfl⟩
  go_upto_region 9 with (first | (go_at_call 31; refine (thing_calls 9 _).mono ?_; rintro r w6 ⟨rfl, hl⟩; have H6 := Aside0.mk (H5.out.below hl); have HG6 := Aside0.mk (obj_below hl HG4.out); clear hl) | (go_at_call 18; refine (Set_some H6.out.ax (wf64 (by decide) (by decide)) HAT.out 9 0).mono ?_; rintro r w7 ⟨rfl, hx, hg⟩; have H7 : Aside0 (Aw w b mb B 4 (setM [⟨g1, 1, 5, 0⟩, ⟨g2, 2, 3, 0⟩, ⟨g3, 3, 5, 0⟩] ⟨g2, 2, 9, 0⟩) w7 ∧ w7.heap[g4]? = some (.cells (aT 3 0) 27 (0, 0))) := ⟨H6.out.ag hg hx, H6.out.ax.box hg HG6.out⟩; clear hx hg))
  clear H5 HG4 H6 HG6 HAT
  have HBB : Aside0 (best (setM [⟨g1, 1, 5, 0⟩, ⟨g2, 2, 3, 0⟩, ⟨g3, 3, 5, 0⟩] ⟨g2, 2, 9, 0⟩) = some ⟨g1, 1, 5, 0⟩) := ⟨rfl⟩
  go_upto_region 10 with (go_at_call 19; refine (First_some H7.out.1.ax HBB.out).mono ?_; rintro r w8 ⟨rfl, hl⟩; have H8 := Aside0.mk (And.intro (H7.out.1.below (hl.alloc hl.size (.cells (aT 5 0) 27))) (obj_below (hl.alloc hl.size (.cells (aT 5 0) 27)) H7.out.2)); clear hl)
  try change Code.wp _ _ _ _ (w8.alloc (.cells (aT 5 0) 27))
  generalize w8.alloc (.cells (aT 5 0) 27) = w81 at H8 ⊢
  clear H7 HBB
  have HAT : Aside0 (atM (setM [⟨g1, 1, 5, 0⟩, ⟨g2, 2, 3, 0⟩, ⟨g3, 3, 5, 0⟩] ⟨g2, 2, 9, 0⟩) 1 = some ⟨g1, 1, 5, 0⟩) := ⟨rfl⟩
  go_upto_region 11 with (go_at_call 17; refine (Drop_some H8.out.1.ax (wf64 (by decide) (by decide)) HAT.out).mono ?_; rintro r w82 ⟨rfl, hx, hg⟩; have H9 := Aside0.mk (And.intro (H8.out.1.ag hg hx) (H8.out.1.ax.box hg H8.out.2)); clear hx hg)
  clear H8 HAT
  have HBC : Aside0 (best (rem (setM [⟨g1, 1, 5, 0⟩, ⟨g2, 2, 3, 0⟩, ⟨g3, 3, 5, 0⟩] ⟨g2, 2, 9, 0⟩) 1) = some ⟨g3, 3, 5, 0⟩) := ⟨rfl⟩
  go_upto_region 12 with (go_at_call 19; refine (First_some H9.out.1.ax HBC.out).mono ?_; rintro r w83 ⟨rfl, hl⟩; have HL0 := Aside0.mk (And.intro (H9.out.1.below (hl.alloc hl.size (.cells (aT 5 0) 27))) (obj_below (hl.alloc hl.size (.cells (aT 5 0) 27)) H9.out.2)); clear hl)
  try change Code.wp _ _ _ _ (w83.alloc (.cells (aT 5 0) 27))
  generalize w83.alloc (.cells (aT 5 0) 27) = w9 at HL0 ⊢
  generalize w83.heap.size = g83
  have HL := Aside0.mk HL0.out.1
  have HG := Aside0.mk HL0.out.2
  clear H9 HBC HL0
  refine startN (S := fun w' => w'.heap[g4]? = some (.cells (aT 3 0) 27 (0, 0))) (N := [18]) (by kernel_rfl) ?_
  have hHeld : (fun w' => w'.heap[g4]? = some (.cells (aT 3 0) 27 (0, 0))) w9.drew := HG.out
  refine takeF (i := 0) (v := _) 53 rfl rfl (by kernel_rfl) (by kernel_rfl) (by kernel_rfl) (fun _ _ _ h => h) (Or.inl ⟨by rfl, fun w' _ => by first | (go_simp; done) | (go_simp; with_reducible rfl) | (go_simp; rfl)⟩) ?_
  try simp only [Act.put, List.setIfInBounds_toArray, List.set_cons_zero, List.set_cons_succ]
  refine takeF (i := 1) (v := _) 54 rfl rfl (by kernel_rfl) (by kernel_rfl) (by kernel_rfl) (fun _ _ _ h => h) (Or.inl ⟨by rfl, fun w' _ => by first | (go_simp; done) | (go_simp; with_reducible rfl) | (go_simp; rfl)⟩) ?_
  try simp only [Act.put, List.setIfInBounds_toArray, List.set_cons_zero, List.set_cons_succ]
  refine takeF (i := 2) (v := _) 55 rfl rfl (by kernel_rfl) (by kernel_rfl) (by kernel_rfl) (fun _ _ _ h => h) (Or.inl ⟨by rfl, fun w' _ => by first | (go_simp; done) | (go_simp; with_reducible rfl) | (go_simp; rfl)⟩) ?_
  try simp only [Act.put, List.setIfInBounds_toArray, List.set_cons_zero, List.set_cons_succ]
  refine takeF (i := 3) (v := _) 56 rfl rfl (by kernel_rfl) (by kernel_rfl) (by kernel_rfl) (fun _ _ _ h => h) (Or.inl ⟨by rfl, fun w' _ => by first | (go_simp; done) | (go_simp; with_reducible rfl) | (go_simp; rfl)⟩) ?_
  try simp only [Act.put, List.setIfInBounds_toArray, List.set_cons_zero, List.set_cons_succ]
  refine takeF (i := 4) (v := _) 57 rfl rfl (by kernel_rfl) (by kernel_rfl) (by kernel_rfl) (fun _ _ _ h => h) (Or.inl ⟨by rfl, fun w' _ => by first | (go_simp; done) | (go_simp; with_reducible rfl) | (go_simp; rfl)⟩) ?_
  try simp only [Act.put, List.setIfInBounds_toArray, List.set_cons_zero, List.set_cons_succ]
  refine takeF (i := 5) (v := _) 58 rfl rfl (by kernel_rfl) (by kernel_rfl) (by kernel_rfl) (fun _ _ _ h => h) (Or.inl ⟨by rfl, fun w' _ => by first | (go_simp; done) | (go_simp; with_reducible rfl) | (go_simp; rfl)⟩) ?_
  try simp only [Act.put, List.setIfInBounds_toArray, List.set_cons_zero, List.set_cons_succ]
  refine takeF (i := 6) (v := _) 59 rfl rfl (by kernel_rfl) (by kernel_rfl) (by kernel_rfl) (fun _ _ _ h => h) (Or.inl ⟨by rfl, fun w' _ => by first | (go_simp; done) | (go_simp; with_reducible rfl) | (go_simp; rfl)⟩) ?_
  try simp only [Act.put, List.setIfInBounds_toArray, List.set_cons_zero, List.set_cons_succ]
  refine takeF (i := 7) (v := _) 60 rfl rfl (by kernel_rfl) (by kernel_rfl) (by kernel_rfl) (fun _ _ _ h => h) (Or.inl ⟨by rfl, fun w' _ => by first | (go_simp; done) | (go_simp; with_reducible rfl) | (go_simp; rfl)⟩) ?_
  try simp only [Act.put, List.setIfInBounds_toArray, List.set_cons_zero, List.set_cons_succ]
  refine takeF (i := 8) (v := _) 61 rfl rfl (by kernel_rfl) (by kernel_rfl) (by kernel_rfl) (fun _ _ _ h => h) (Or.inl ⟨by rfl, fun w' _ => by first | (go_simp; done) | (go_simp; with_reducible rfl) | (go_simp; rfl)⟩) ?_
  try simp only [Act.put, List.setIfInBounds_toArray, List.set_cons_zero, List.set_cons_succ]
  refine takeF (i := 9) (v := _) 62 rfl rfl (by kernel_rfl) (by kernel_rfl) (by kernel_rfl) (fun _ _ _ h => h) (Or.inl ⟨by rfl, fun w' _ => by first | (go_simp; done) | (go_simp; with_reducible rfl) | (go_simp; rfl)⟩) ?_
  try simp only [Act.put, List.setIfInBounds_toArray, List.set_cons_zero, List.set_cons_succ]
  refine takeF (i := 10) (v := _) 63 rfl rfl (by kernel_rfl) (by kernel_rfl) (by kernel_rfl) (fun _ _ _ h => h) (Or.inl ⟨by rfl, fun w' _ => by first | (go_simp; done) | (go_simp; with_reducible rfl) | (go_simp; rfl)⟩) ?_
  try simp only [Act.put, List.setIfInBounds_toArray, List.set_cons_zero, List.set_cons_succ]
  refine takeF (i := 11) (v := _) 64 rfl rfl (by kernel_rfl) (by kernel_rfl) (by kernel_rfl) (fun _ _ _ h => h) (Or.inl ⟨by rfl, fun w' _ => by first | (go_simp; done) | (go_simp; with_reducible rfl) | (go_simp; rfl)⟩) ?_
  try simp only [Act.put, List.setIfInBounds_toArray, List.set_cons_zero, List.set_cons_succ]
  refine takeF (i := 12) (v := _) 65 rfl rfl (by kernel_rfl) (by kernel_rfl) (by kernel_rfl) (fun _ _ _ h => h) (Or.inl ⟨by rfl, fun w' _ => by first | (go_simp; done) | (go_simp; with_reducible rfl) | (go_simp; rfl)⟩) ?_
  try simp only [Act.put, List.setIfInBounds_toArray, List.set_cons_zero, List.set_cons_succ]
  refine takeF (i := 13) (v := _) 66 rfl rfl (by kernel_rfl) (by kernel_rfl) (by kernel_rfl) (fun _ _ _ h => h) (Or.inl ⟨by rfl, fun w' _ => by first | (go_simp; done) | (go_simp; with_reducible rfl) | (go_simp; rfl)⟩) ?_
  try simp only [Act.put, List.setIfInBounds_toArray, List.set_cons_zero, List.set_cons_succ]
  refine takeF (i := 14) (v := _) 67 rfl rfl (by kernel_rfl) (by kernel_rfl) (by kernel_rfl) (fun _ _ _ h => h) (Or.inl ⟨by rfl, fun w' _ => by first | (go_simp; done) | (go_simp; with_reducible rfl) | (go_simp; rfl)⟩) ?_
  try simp only [Act.put, List.setIfInBounds_toArray, List.set_cons_zero, List.set_cons_succ]
  refine takeF (i := 15) (v := _) 68 rfl rfl (by kernel_rfl) (by kernel_rfl) (by kernel_rfl) (fun _ _ _ h => h) (Or.inl ⟨by rfl, fun w' _ => by first | (go_simp; done) | (go_simp; with_reducible rfl) | (go_simp; rfl)⟩) ?_
  try simp only [Act.put, List.setIfInBounds_toArray, List.set_cons_zero, List.set_cons_succ]
  refine takeF (i := 16) (v := _) 69 rfl rfl (by kernel_rfl) (by kernel_rfl) (by kernel_rfl) (fun _ _ _ h => h) (Or.inl ⟨by rfl, fun w' _ => by first | (go_simp; done) | (go_simp; with_reducible rfl) | (go_simp; rfl)⟩) ?_
  try simp only [Act.put, List.setIfInBounds_toArray, List.set_cons_zero, List.set_cons_succ]
  refine takeF (i := 17) (v := _) 70 rfl rfl (by kernel_rfl) (by kernel_rfl) (by kernel_rfl) (fun _ _ _ h => h) (Or.inl ⟨by rfl, fun w' _ => by first | (go_simp; done) | (go_simp; with_reducible rfl) | (go_simp; rfl)⟩) ?_
  try simp only [Act.put, List.setIfInBounds_toArray, List.set_cons_zero, List.set_cons_succ]
  refine takeN (i := 18) (v := _) 71 rfl rfl (by kernel_rfl) (by kernel_rfl) (by kernel_rfl) (fun _ _ _ h => h) (by kernel_rfl) (Or.inl ⟨by rfl, fun w' hW => by have hq0 := (blk2 hW).1; have hq1 := (blk2 hW).2; first | (go_simp; done) | (go_simp; with_reducible rfl) | (go_simp; rfl)⟩) hHeld ?_
  try simp only [Act.put, List.setIfInBounds_toArray, List.set_cons_zero, List.set_cons_succ]
  have HZ := Aside0.mk (And.intro (HL.out.below (Below.refl _ _).drew) HG.out)
  clear hHeld
  replace HZ : Aside0 (Aw w b mb B 4 (rem (setM [⟨g1, 1, 5, 0⟩, ⟨g2, 2, 3, 0⟩, ⟨g3, 3, 5, 0⟩] ⟨g2, 2, 9, 0⟩) 1) w9.drew ∧ w9.drew.heap[g4]? = some (.cells (aT 3 0) 27 (0, 0))) := ⟨HZ.out⟩
  generalize w9.drew = wd at HZ ⊢
  refine readyN (rs := [19]) (by kernel_rfl) (by simp) ?_
  refine eachN.cons rfl (fun K hK => ?_) eachN.nil
  go_simp
  go_wp2_with (go_at_call 31; refine (thing_calls 3 _).mono ?_; rintro r we ⟨rfl, hl⟩; have HE : Aside0 (Below w.heap.size w we ∧ we.heap[g4]? = some (.cells (aT 3 0) 27 (0, 0))) := ⟨(HZ.out.1.below hl).be, obj_below hl HZ.out.2⟩; clear hl)
  refine hK.out _ _ HE.out.2 (fun hHeld => ?_)
  clear hK K
  try simp only [Act.put, List.setIfInBounds_toArray, List.set_cons_zero, List.set_cons_succ]
  refine takeF (i := 20) (v := _) 73 rfl rfl (by kernel_rfl) (by kernel_rfl) (by kernel_rfl) (fun _ _ _ h => h) (Or.inl ⟨by rfl, fun w' _ => by first | (go_simp; done) | (go_simp; with_reducible rfl) | (go_simp; rfl)⟩) ?_
  try simp only [Act.put, List.setIfInBounds_toArray, List.set_cons_zero, List.set_cons_succ]
  refine takeF (i := 21) (v := _) 74 rfl rfl (by kernel_rfl) (by kernel_rfl) (by kernel_rfl) (fun _ _ _ h => h) (Or.inl ⟨by rfl, fun w' _ => by first | (go_simp; done) | (go_simp; with_reducible rfl) | (go_simp; rfl)⟩) ?_
  try simp only [Act.put, List.setIfInBounds_toArray, List.set_cons_zero, List.set_cons_succ]
  refine takeF (i := 22) (v := _) 75 rfl rfl (by kernel_rfl) (by kernel_rfl) (by kernel_rfl) (fun _ _ _ h => h) (Or.inl ⟨by rfl, fun w' _ => by first | (go_simp; done) | (go_simp; with_reducible rfl) | (go_simp; rfl)⟩) ?_
  try simp only [Act.put, List.setIfInBounds_toArray, List.set_cons_zero, List.set_cons_succ]
  refine takeF (i := 23) (v := _) 76 rfl rfl (by kernel_rfl) (by kernel_rfl) (by kernel_rfl) (fun _ _ _ h => h) (Or.inl ⟨by rfl, fun w' _ => by first | (go_simp; done) | (go_simp; with_reducible rfl) | (go_simp; rfl)⟩) ?_
  try simp only [Act.put, List.setIfInBounds_toArray, List.set_cons_zero, List.set_cons_succ]
  refine takeF (i := 24) (v := _) 77 rfl rfl (by kernel_rfl) (by kernel_rfl) (by kernel_rfl) (fun _ _ _ h => h) (Or.inl ⟨by rfl, fun w' _ => by first | (go_simp; done) | (go_simp; with_reducible rfl) | (go_simp; rfl)⟩) ?_
  try simp only [Act.put, List.setIfInBounds_toArray, List.set_cons_zero, List.set_cons_succ]
  refine takeF (i := 25) (v := _) 78 rfl rfl (by kernel_rfl) (by kernel_rfl) (by kernel_rfl) (fun _ _ _ h => h) (Or.inl ⟨by rfl, fun w' _ => by first | (go_simp; done) | (go_simp; with_reducible rfl) | (go_simp; rfl)⟩) ?_
  try simp only [Act.put, List.setIfInBounds_toArray, List.set_cons_zero, List.set_cons_succ]
  refine takeF (i := 26) (v := _) 79 rfl rfl (by kernel_rfl) (by kernel_rfl) (by kernel_rfl) (fun _ _ _ h => h) (Or.inl ⟨by rfl, fun w' _ => by first | (go_simp; done) | (go_simp; with_reducible rfl) | (go_simp; rfl)⟩) ?_
  try simp only [Act.put, List.setIfInBounds_toArray, List.set_cons_zero, List.set_cons_succ]
  refine takeF (i := 27) (v := _) 80 rfl rfl (by kernel_rfl) (by kernel_rfl) (by kernel_rfl) (fun _ _ _ h => h) (Or.inl ⟨by rfl, fun w' _ => by first | (go_simp; done) | (go_simp; with_reducible rfl) | (go_simp; rfl)⟩) ?_
  try simp only [Act.put, List.setIfInBounds_toArray, List.set_cons_zero, List.set_cons_succ]
  refine takeF (i := 28) (v := _) 81 rfl rfl (by kernel_rfl) (by kernel_rfl) (by kernel_rfl) (fun _ _ _ h => h) (Or.inl ⟨by rfl, fun w' _ => by first | (go_simp; done) | (go_simp; with_reducible rfl) | (go_simp; rfl)⟩) ?_
  try simp only [Act.put, List.setIfInBounds_toArray, List.set_cons_zero, List.set_cons_succ]
  refine takeF (i := 29) (v := _) 82 rfl rfl (by kernel_rfl) (by kernel_rfl) (by kernel_rfl) (fun _ _ _ h => h) (Or.inl ⟨by rfl, fun w' _ => by first | (go_simp; done) | (go_simp; with_reducible rfl) | (go_simp; rfl)⟩) ?_
  try simp only [Act.put, List.setIfInBounds_toArray, List.set_cons_zero, List.set_cons_succ]
  refine takeF (i := 30) (v := _) 83 rfl rfl (by kernel_rfl) (by kernel_rfl) (by kernel_rfl) (fun _ _ _ h => h) (Or.inl ⟨by rfl, fun w' _ => by first | (go_simp; done) | (go_simp; with_reducible rfl) | (go_simp; rfl)⟩) ?_
  try simp only [Act.put, List.setIfInBounds_toArray, List.set_cons_zero, List.set_cons_succ]
  refine takeF (i := 31) (v := _) 84 rfl rfl (by kernel_rfl) (by kernel_rfl) (by kernel_rfl) (fun _ _ _ h => h) (Or.inl ⟨by rfl, fun w' _ => by first | (go_simp; done) | (go_simp; with_reducible rfl) | (go_simp; rfl)⟩) ?_
  try simp only [Act.put, List.setIfInBounds_toArray, List.set_cons_zero, List.set_cons_succ]
  refine takeF (i := 32) (v := _) 85 rfl rfl (by kernel_rfl) (by kernel_rfl) (by kernel_rfl) (fun _ _ _ h => h) (Or.inl ⟨by rfl, fun w' _ => by first | (go_simp; done) | (go_simp; with_reducible rfl) | (go_simp; rfl)⟩) ?_
  try simp only [Act.put, List.setIfInBounds_toArray, List.set_cons_zero, List.set_cons_succ]
  refine takeF (i := 33) (v := _) 86 rfl rfl (by kernel_rfl) (by kernel_rfl) (by kernel_rfl) (fun _ _ _ h => h) (Or.inl ⟨by rfl, fun w' _ => by first | (go_simp; done) | (go_simp; with_reducible rfl) | (go_simp; rfl)⟩) ?_
  try simp only [Act.put, List.setIfInBounds_toArray, List.set_cons_zero, List.set_cons_succ]
  refine takeF (i := 34) (v := _) 0 rfl rfl (by kernel_rfl) (by kernel_rfl) (by kernel_rfl) (fun _ _ _ h => h) (Or.inl ⟨by rfl, fun w' _ => by first | (go_simp; done) | (go_simp; with_reducible rfl) | (go_simp; rfl)⟩) ?_
  try simp only [Act.put, List.setIfInBounds_toArray, List.set_cons_zero, List.set_cons_succ]
  refine doneN (by kernel_rfl) ?_ _
  go_wp2
  go_ret
  exact ⟨rfl, HE.out.1⟩
end Go.Proofs.Ythjppjcmapgkpaa.QAg
