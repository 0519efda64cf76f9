/- Agenda: the law's do: an act on both. Written by a program of this repo (tools/gen_ag15.py). -/
import Derived.Test.YthjppjcmapgkpaaOOAg
namespace Go.Proofs.Ythjppjcmapgkpaa.QAg
open Go.RowKit Go.Maps Go.Proofs.YthjppjcmapgkpaaW.PrintWords Go.Proofs.YthjppjcmapgkpaaW.PrintLast Go.Proofs.YthjppjcmapgkpaaW.PrintMore
set_option linter.unusedVariables false
set_option linter.unusedSimpArgs false
abbrev aO (kd k m id n : Int) : Array Value := #[.int .i64 kd, .int .i8 k, .int .i64 m, .int .i64 id, .int .i64 n]
section
variable {w0 w w' : World} {b mb B rb C : Nat} {nx nx' : Int} {M M' : List En} {r r' : RS}
theorem Jp.keepA {g : Nat} {D : Array Value} {t : TypeId} (h : Jp w0 b mb B rb C nx M r w) (k : Ag b mb B w w') (hg : w.heap[g]? = some (.cells D t (0, 0))) (h1 : t ≠ 63) (h2 : t ≠ 73 ∧ t ≠ 75) : w'.heap[g]? = some (.cells D t (0, 0)) := by
  obtain ⟨⟨Cb, hb⟩, es, cl, hm⟩ := h.ax.blks
  refine k.box hg (fun hc => ?_) (fun hc => ?_) h2
  · rw [hc, hb] at hg
    injection hg with hg
    injection hg with _ hg
    exact h1 hg.symm
  · rw [hc, hm] at hg
    cases hg
theorem Jp.keepR {g : Nat} {D : Array Value} {t : TypeId} (h : Jp w0 b mb B rb C nx M r w) (k : Far rb rb w w') (hg : w.heap[g]? = some (.cells D t (0, 0))) (h1 : t ≠ 32) : w'.heap[g]? = some (.cells D t (0, 0)) := by
  obtain ⟨v, hv⟩ := h.rl
  have hne : g ≠ rb := fun hc => by
    rw [hc, hv.blk] at hg
    injection hg with hg
    injection hg with _ hg
    exact h1 hg.symm
  exact (k.block g (Array.getElem?_eq_some_iff.1 hg).1 hne hne).trans hg
theorem Jp.small (h : Jp w0 b mb B rb C nx M r w) : (M.length : Int) < nx ∧ 1 ≤ nx := by
  obtain ⟨v, n, e, h1, h2, h3, h4, h5⟩ := h.ax
  rw [h2.len]
  exact ⟨h4, h2.nx1⟩
end
theorem blkO {w : World} {g : Nat} {kd k m id n : Int} (h : w.heap[g]? = some (.cells (aO kd k m id n) 35 (0, 0))) : w.cell? ⟨g, 0, none⟩ = some (.int .i64 kd) ∧ w.cell? ⟨g, 1, none⟩ = some (.int .i8 k) ∧ w.cell? ⟨g, 2, none⟩ = some (.int .i64 m) ∧ w.cell? ⟨g, 3, none⟩ = some (.int .i64 id) ∧ w.cell? ⟨g, 4, none⟩ = some (.int .i64 n) := by
  refine ⟨?_, ?_, ?_, ?_, ?_⟩ <;> (simp only [World.cell?, h]; rfl)
/-- Both stand alike. -/
def Bo (w0 : World) (b mb B rb C : Nat) (nx : Int) (M : List En) (w : World) : Prop := Jp w0 b mb B rb C nx M ⟨nx - 1, M⟩ w
def DoP (w0 : World) (b mb B rb C : Nat) (nx : Int) (r : Ending) (w' : World) : Prop := r = .returned (.bool true) ∧ ∃ nx' M', nx' ≤ nx + 1 ∧ Bo w0 b mb B rb C nx' M' w'
set_option maxRecDepth 100000 in
set_option maxHeartbeats 4000000 in
theorem do0 {w0 w : World} {b mb B rb C : Nat} {nx : Int} {M : List En} (h : Bo w0 b mb B rb C nx M w) (hnx : nx ≤ 1000) (kd k m id n : Int) (e1 : kd ≠ 1) (e2 : kd ≠ 2) (e3 : kd ≠ 3) (e4 : kd ≠ 4) (e5 : kd ≠ 5) : Calls Try.prog 10 #[.pointer (some ⟨b, 0, none⟩), .pointer (some ⟨rb, 0, none⟩), .agg (aO kd k m id n)] w fun r w' => DoP w0 b mb B rb C nx r w' := by
  have q1 : (kd == 1) = false := by simp [e1]
  have q2 : (kd == 2) = false := by simp [e2]
  have q3 : (kd == 3) = false := by simp [e3]
  have q4 : (kd == 4) = false := by simp [e4]
  have q5 : (kd == 5) = false := by simp [e5]
  clear e1 e2 e3 e4 e5
  have HX0 : Aside0 ((w.alloc (.cells (aO kd k m id n) 35)).heap[w.heap.size]? = some (.cells (aO kd k m id n) 35 (0, 0))) := ⟨World.alloc_heap_new _ _⟩
  have HJ0 : Aside0 (Bo w0 b mb B rb C nx M (w.alloc (.cells (aO kd k m id n) 35))) := ⟨Jp.below h ((Below.refl _ _).alloc (Nat.le_refl _) _)⟩
  have HN := Aside0.mk hnx
  clear h hnx
  go_enter Try.func10, Try.ntmps10
  go_upto_region 1 with fail
  generalize w.alloc (.cells (aO kd k m id n) 35) = w1 at HX0 HJ0 ⊢
  generalize w.heap.size = g at HX0 ⊢
  obtain ⟨c0, c1, c2, c3, c4⟩ := blkO HX0.out
  go_wp2
  go_ret
  exact ⟨rfl, nx, M, by omega, HJ0.out⟩
set_option maxRecDepth 100000 in
set_option maxHeartbeats 4000000 in
theorem do1 {w0 w : World} {b mb B rb C : Nat} {nx : Int} {M : List En} (h : Bo w0 b mb B rb C nx M w) (hnx : nx ≤ 1000) (k m id n : Int)  : Calls Try.prog 10 #[.pointer (some ⟨b, 0, none⟩), .pointer (some ⟨rb, 0, none⟩), .agg (aO 1 k m id n)] w fun r w' => DoP w0 b mb B rb C nx r w' := by
  have HX0 : Aside0 ((w.alloc (.cells (aO 1 k m id n) 35)).heap[w.heap.size]? = some (.cells (aO 1 k m id n) 35 (0, 0))) := ⟨World.alloc_heap_new _ _⟩
  have HJ0 : Aside0 (Bo w0 b mb B rb C nx M (w.alloc (.cells (aO 1 k m id n) 35))) := ⟨Jp.below h ((Below.refl _ _).alloc (Nat.le_refl _) _)⟩
  have HN := Aside0.mk hnx
  clear h hnx
  go_enter Try.func10, Try.ntmps10
  go_upto_region 1 with fail
  generalize w.alloc (.cells (aO 1 k m id n) 35) = w1 at HX0 HJ0 ⊢
  generalize w.heap.size = g at HX0 ⊢
  obtain ⟨c0, c1, c2, c3, c4⟩ := blkO HX0.out
  have HNX : Aside0 (nx < 100000 ∧ M.length + 1 ≤ 100000 ∧ 0 ≤ nx - 1 ∧ nx - 1 < 1000000) := ⟨by have := HJ0.out.small; have := HN.out; omega⟩
  go_upto_region 5 with (go_at_call 15; refine (Push_ax HJ0.out.ax HNX.out.1 k m).mono ?_; rintro r w2 ⟨rfl, g2, hx, hg⟩; have HJ2 := Aside0.mk (And.intro (HJ0.out.ag hg hx) (HJ0.out.keepA hg HX0.out (by decide) ⟨by decide, by decide⟩)); clear hx hg)
  obtain ⟨v2, hv2⟩ := HJ2.out.1.rl
  have HV2 := Aside0.mk hv2
  clear hv2 c0 c1 c2 c3 c4
  obtain ⟨d0, d1, d2, d3, d4⟩ := blkO HJ2.out.2
  clear d0 d3 d4
  have hq : nx - 1 + 1 = nx := by omega
  go_wp2_with (go_at_call 26; refine (RPush_calls HV2.out HNX.out.2.1 HNX.out.2.2.1 HNX.out.2.2.2 k m).mono ?_; rintro e w3 ⟨rfl, hn⟩; have HJ3 := Aside0.mk (HJ2.out.1.rn hn); clear hn)
  have HF : Aside0 (Bo w0 b mb B rb C (nx + 1) (M ++ [⟨g2, nx, k, m⟩]) w3) := ⟨by
    have h1 := HJ3.out.strip (M' := M ++ [⟨g2, nx, k, m⟩]) (by show (M ++ [(⟨0, nx - 1 + 1, k, m⟩ : En)]).map strip = _; rw [hq, List.map_append, List.map_append]; rfl)
    have e1 : (pushR ⟨nx - 1, M⟩ k m).last = nx + 1 - 1 := by show nx - 1 + 1 = _; omega
    rw [e1] at h1
    exact h1⟩
  go_ret
  exact ⟨by simp, _, _, Int.le_refl _, HF.out⟩
set_option maxRecDepth 100000 in
set_option maxHeartbeats 4000000 in
theorem do2 {w0 w : World} {b mb B rb C : Nat} {nx : Int} {M : List En} (h : Bo w0 b mb B rb C nx M w) (hnx : nx ≤ 1000) (k m id n : Int)  : Calls Try.prog 10 #[.pointer (some ⟨b, 0, none⟩), .pointer (some ⟨rb, 0, none⟩), .agg (aO 2 k m id n)] w fun r w' => DoP w0 b mb B rb C nx r w' := by
  have HX0 : Aside0 ((w.alloc (.cells (aO 2 k m id n) 35)).heap[w.heap.size]? = some (.cells (aO 2 k m id n) 35 (0, 0))) := ⟨World.alloc_heap_new _ _⟩
  have HJ0 : Aside0 (Bo w0 b mb B rb C nx M (w.alloc (.cells (aO 2 k m id n) 35))) := ⟨Jp.below h ((Below.refl _ _).alloc (Nat.le_refl _) _)⟩
  have HN := Aside0.mk hnx
  clear h hnx
  go_enter Try.func10, Try.ntmps10
  go_upto_region 1 with fail
  generalize w.alloc (.cells (aO 2 k m id n) 35) = w1 at HX0 HJ0 ⊢
  generalize w.heap.size = g at HX0 ⊢
  obtain ⟨c0, c1, c2, c3, c4⟩ := blkO HX0.out
  have HINC : Aside0 (M.Pairwise (fun x y => x.id < y.id)) := ⟨HJ0.out.ax.inc⟩
  clear c1 c2 c3 c4
  cases hb : best M with
  | none =>
    have HBE := Aside0.mk hb
    have HNIL : Aside0 (M = []) := ⟨best_none HINC.out hb⟩
    clear hb
    go_upto_region 8 with (go_at_call 16; refine (Pop_none (show Ax w1 b mb B nx [] from by rw [← HNIL.out]; exact HJ0.out.ax)).mono ?_; rintro r w2 ⟨rfl, hl⟩; have HJ2 := Aside0.mk (HJ0.out.below hl); clear hl)
    have HJ2b := Aside0.mk (HJ2.out.below ((Below.refl _ _).alloc (Nat.le_refl _) (.cells (aT 0 0) 27)))
    have HG9 : Aside0 ((w2.alloc (.cells (aT 0 0) 27)).heap[w2.heap.size]? = some (.cells (aT 0 0) 27 (0, 0))) := ⟨World.alloc_heap_new _ _⟩
    try change Code.wp _ _ _ _ (w2.alloc (.cells (aT 0 0) 27))
    clear HJ2
    generalize w2.alloc (.cells (aT 0 0) 27) = w3 at HJ2b HG9 ⊢
    generalize w2.heap.size = g9 at HG9 ⊢
    obtain ⟨v2, hv2⟩ := HJ2b.out.rl
    have HV2 := Aside0.mk hv2
    clear hv2
    go_upto_region 9 with (go_at_call 27; refine (RPop_none HV2.out HINC.out HBE.out).mono ?_; rintro e w4 ⟨rfl, hn⟩; have HJ4 := Aside0.mk (And.intro (HJ2b.out.rn hn) (HJ2b.out.keepR hn.fr HG9.out (by decide))); clear hn)
    have HJ4b := Aside0.mk (And.intro (HJ4.out.1.below ((Below.refl _ _).alloc (Nat.le_refl _) (.cells (aT 0 0) 27))) (obj_below ((Below.refl _ _).alloc (Nat.le_refl _) (.cells (aT 0 0) 27)) HJ4.out.2))
    have HG12 : Aside0 ((w4.alloc (.cells (aT 0 0) 27)).heap[w4.heap.size]? = some (.cells (aT 0 0) 27 (0, 0))) := ⟨World.alloc_heap_new _ _⟩
    try change Code.wp _ _ _ _ (w4.alloc (.cells (aT 0 0) 27))
    clear HJ4 HJ2b HG9 HV2
    generalize w4.alloc (.cells (aT 0 0) 27) = w5 at HJ4b HG12 ⊢
    generalize w4.heap.size = g12 at HG12 ⊢
    obtain ⟨x0, x1⟩ := blk2 HJ4b.out.2
    obtain ⟨y0, y1⟩ := blk2 HG12.out
    go_wp2
    go_ret
    exact ⟨by simp, nx, M, by omega, HJ4b.out.1⟩
  | some x =>
    have HBE := Aside0.mk hb
    clear hb
    go_upto_region 8 with (go_at_call 16; refine (Pop_some HJ0.out.ax HBE.out).mono ?_; rintro r w2 ⟨rfl, hx, hg⟩; have HJ2 := Aside0.mk (HJ0.out.ag hg hx); clear hx hg)
    have HJ2b := Aside0.mk (HJ2.out.below ((Below.refl _ _).alloc (Nat.le_refl _) (.cells (aT x.key x.mark) 27)))
    have HG9 : Aside0 ((w2.alloc (.cells (aT x.key x.mark) 27)).heap[w2.heap.size]? = some (.cells (aT x.key x.mark) 27 (0, 0))) := ⟨World.alloc_heap_new _ _⟩
    try change Code.wp _ _ _ _ (w2.alloc (.cells (aT x.key x.mark) 27))
    clear HJ2
    generalize w2.alloc (.cells (aT x.key x.mark) 27) = w3 at HJ2b HG9 ⊢
    generalize w2.heap.size = g9 at HG9 ⊢
    obtain ⟨v2, hv2⟩ := HJ2b.out.rl
    have HV2 := Aside0.mk hv2
    clear hv2
    go_upto_region 9 with (go_at_call 27; refine (RPop_some HV2.out HINC.out HBE.out).mono ?_; rintro e w4 ⟨rfl, hn⟩; have HJ4 := Aside0.mk (And.intro (HJ2b.out.rn hn) (HJ2b.out.keepR hn.fr HG9.out (by decide))); clear hn)
    have HJ4b := Aside0.mk (And.intro (HJ4.out.1.below ((Below.refl _ _).alloc (Nat.le_refl _) (.cells (aT x.key x.mark) 27))) (obj_below ((Below.refl _ _).alloc (Nat.le_refl _) (.cells (aT x.key x.mark) 27)) HJ4.out.2))
    have HG12 : Aside0 ((w4.alloc (.cells (aT x.key x.mark) 27)).heap[w4.heap.size]? = some (.cells (aT x.key x.mark) 27 (0, 0))) := ⟨World.alloc_heap_new _ _⟩
    try change Code.wp _ _ _ _ (w4.alloc (.cells (aT x.key x.mark) 27))
    clear HJ4 HJ2b HG9 HV2
    generalize w4.alloc (.cells (aT x.key x.mark) 27) = w5 at HJ4b HG12 ⊢
    generalize w4.heap.size = g12 at HG12 ⊢
    obtain ⟨x0, x1⟩ := blk2 HJ4b.out.2
    obtain ⟨y0, y1⟩ := blk2 HG12.out
    go_wp2
    go_ret
    exact ⟨by simp, nx, rem M x.id, by omega, HJ4b.out.1⟩
theorem set_at : ∀ {M : List En} {i : Nat} {x : En} {k m : Int}, M.Pairwise (fun x y => x.id < y.id) → M[i]? = some x → M.set i (newE x k m) = setM M (newE x k m)
  | [], i, x, _, _, _, h => by simp at h
  | y :: M, 0, x, k, m, hp, h => by
    rw [List.pairwise_cons] at hp
    have e1 : y = x := by simpa using h
    subst e1
    unfold setM
    rw [List.set_cons_zero, List.map_cons, if_pos (show y.id = (newE y k m).id from rfl)]
    congr 1
    refine (List.map_id M).symm.trans (List.map_congr_left (fun z hz => ?_))
    have := hp.1 z hz
    rw [if_neg (by show ¬ z.id = y.id; omega)]
    rfl
  | y :: M, i + 1, x, k, m, hp, h => by
    rw [List.pairwise_cons] at hp
    have h' : M[i]? = some x := by simpa using h
    have hx := hp.1 x (List.mem_of_getElem? h')
    have ih := set_at (k := k) (m := m) hp.2 h'
    unfold setM at ih ⊢
    rw [List.set_cons_succ, ih, List.map_cons, if_neg (by show ¬ y.id = x.id; omega)]
set_option maxRecDepth 100000 in
set_option maxHeartbeats 4000000 in
theorem do3 {w0 w : World} {b mb B rb C : Nat} {nx : Int} {M : List En} (h : Bo w0 b mb B rb C nx M w) (hnx : nx ≤ 1000) (k m id n : Int) (hid : (Lit.int .i64 id).wf = true) : Calls Try.prog 10 #[.pointer (some ⟨b, 0, none⟩), .pointer (some ⟨rb, 0, none⟩), .agg (aO 3 k m id n)] w fun r w' => DoP w0 b mb B rb C nx r w' := by
  have HID := Aside0.mk hid
  clear hid
  have HX0 : Aside0 ((w.alloc (.cells (aO 3 k m id n) 35)).heap[w.heap.size]? = some (.cells (aO 3 k m id n) 35 (0, 0))) := ⟨World.alloc_heap_new _ _⟩
  have HJ0 : Aside0 (Bo w0 b mb B rb C nx M (w.alloc (.cells (aO 3 k m id n) 35))) := ⟨Jp.below h ((Below.refl _ _).alloc (Nat.le_refl _) _)⟩
  have HN := Aside0.mk hnx
  clear h hnx
  go_enter Try.func10, Try.ntmps10
  go_upto_region 1 with fail
  generalize w.alloc (.cells (aO 3 k m id n) 35) = w1 at HX0 HJ0 ⊢
  generalize w.heap.size = g at HX0 ⊢
  obtain ⟨c0, c1, c2, c3, c4⟩ := blkO HX0.out
  have HINC : Aside0 (M.Pairwise (fun x y => x.id < y.id)) := ⟨HJ0.out.ax.inc⟩
  cases hb : atM M id with
  | none =>
    have HBE := Aside0.mk hb
    clear hb
    go_upto_region 11 with fail
    clear c0 c1 c2 c3 c4
    refine startN (S := fun w' => w'.heap[g]? = some (.cells (aO 3 k m id n) 35 (0, 0))) (N := [2, 4, 8, 10]) (by kernel_rfl) ?_
    have hHeld : (fun w' => w'.heap[g]? = some (.cells (aO 3 k m id n) 35 (0, 0))) w1.drew := HX0.out
    refine takeF (i := 0) (v := _) 71 rfl rfl (by kernel_rfl) (by kernel_rfl) (by kernel_rfl) (fun _ _ _ h => h) (Or.inl ⟨by rfl, fun w' _ => by first | (go_simp; done) | (go_simp; with_reducible rfl) | (go_simp; rfl)⟩) ?_
    try simp only [Act.put, List.setIfInBounds_toArray, List.set_cons_zero, List.set_cons_succ]
    refine takeF (i := 1) (v := _) 72 rfl rfl (by kernel_rfl) (by kernel_rfl) (by kernel_rfl) (fun _ _ _ h => h) (Or.inl ⟨by rfl, fun w' _ => by first | (go_simp; done) | (go_simp; with_reducible rfl) | (go_simp; rfl)⟩) ?_
    try simp only [Act.put, List.setIfInBounds_toArray, List.set_cons_zero, List.set_cons_succ]
    refine takeN (i := 2) (v := _) 73 rfl rfl (by kernel_rfl) (by kernel_rfl) (by kernel_rfl) (fun _ _ _ h => h) (by kernel_rfl) (Or.inl ⟨by rfl, fun w' hW => by have hq0 := (blkO hW).2.1; have hq1 := (blkO hW).2.2.1; have hq2 := (blkO hW).2.2.2.1; first | (go_simp; done) | (go_simp; with_reducible rfl) | (go_simp; rfl)⟩) hHeld ?_
    try simp only [Act.put, List.setIfInBounds_toArray, List.set_cons_zero, List.set_cons_succ]
    refine takeF (i := 3) (v := _) 74 rfl rfl (by kernel_rfl) (by kernel_rfl) (by kernel_rfl) (fun _ _ _ h => h) (Or.inl ⟨by rfl, fun w' _ => by first | (go_simp; done) | (go_simp; with_reducible rfl) | (go_simp; rfl)⟩) ?_
    try simp only [Act.put, List.setIfInBounds_toArray, List.set_cons_zero, List.set_cons_succ]
    refine takeN (i := 4) (v := _) 75 rfl rfl (by kernel_rfl) (by kernel_rfl) (by kernel_rfl) (fun _ _ _ h => h) (by kernel_rfl) (Or.inl ⟨by rfl, fun w' hW => by have hq0 := (blkO hW).2.1; have hq1 := (blkO hW).2.2.1; have hq2 := (blkO hW).2.2.2.1; first | (go_simp; done) | (go_simp; with_reducible rfl) | (go_simp; rfl)⟩) hHeld ?_
    try simp only [Act.put, List.setIfInBounds_toArray, List.set_cons_zero, List.set_cons_succ]
    refine takeF (i := 6) (v := _) 77 rfl rfl (by kernel_rfl) (by kernel_rfl) (by kernel_rfl) (fun _ _ _ h => h) (Or.inl ⟨by rfl, fun w' _ => by first | (go_simp; done) | (go_simp; with_reducible rfl) | (go_simp; rfl)⟩) ?_
    try simp only [Act.put, List.setIfInBounds_toArray, List.set_cons_zero, List.set_cons_succ]
    refine takeF (i := 7) (v := _) 78 rfl rfl (by kernel_rfl) (by kernel_rfl) (by kernel_rfl) (fun _ _ _ h => h) (Or.inl ⟨by rfl, fun w' _ => by first | (go_simp; done) | (go_simp; with_reducible rfl) | (go_simp; rfl)⟩) ?_
    try simp only [Act.put, List.setIfInBounds_toArray, List.set_cons_zero, List.set_cons_succ]
    refine takeN (i := 8) (v := _) 79 rfl rfl (by kernel_rfl) (by kernel_rfl) (by kernel_rfl) (fun _ _ _ h => h) (by kernel_rfl) (Or.inl ⟨by rfl, fun w' hW => by have hq0 := (blkO hW).2.1; have hq1 := (blkO hW).2.2.1; have hq2 := (blkO hW).2.2.2.1; first | (go_simp; done) | (go_simp; with_reducible rfl) | (go_simp; rfl)⟩) hHeld ?_
    try simp only [Act.put, List.setIfInBounds_toArray, List.set_cons_zero, List.set_cons_succ]
    refine takeF (i := 9) (v := _) 80 rfl rfl (by kernel_rfl) (by kernel_rfl) (by kernel_rfl) (fun _ _ _ h => h) (Or.inl ⟨by rfl, fun w' _ => by first | (go_simp; done) | (go_simp; with_reducible rfl) | (go_simp; rfl)⟩) ?_
    try simp only [Act.put, List.setIfInBounds_toArray, List.set_cons_zero, List.set_cons_succ]
    refine takeN (i := 10) (v := _) 81 rfl rfl (by kernel_rfl) (by kernel_rfl) (by kernel_rfl) (fun _ _ _ h => h) (by kernel_rfl) (Or.inl ⟨by rfl, fun w' hW => by have hq0 := (blkO hW).2.1; have hq1 := (blkO hW).2.2.1; have hq2 := (blkO hW).2.2.2.1; first | (go_simp; done) | (go_simp; with_reducible rfl) | (go_simp; rfl)⟩) hHeld ?_
    try simp only [Act.put, List.setIfInBounds_toArray, List.set_cons_zero, List.set_cons_succ]
    have HJ1 := Aside0.mk (And.intro (HJ0.out.below (Below.refl _ _).drew) HX0.out)
    clear hHeld
    replace HJ1 : Aside0 (Bo w0 b mb B rb C nx M w1.drew ∧ w1.drew.heap[g]? = some (.cells (aO 3 k m id n) 35 (0, 0))) := ⟨HJ1.out⟩
    generalize w1.drew = w2 at HJ1 ⊢
    refine readyN (rs := [5]) (by kernel_rfl) (by simp) ?_
    refine eachN.cons rfl (fun K hK => ?_) eachN.nil
    go_simp
    go_wp2_with (go_at_call 18; refine (Set_none HJ1.out.1.ax HID.out HBE.out k m).mono ?_; rintro r w3 ⟨rfl, hl⟩; have HJ2 := Aside0.mk (And.intro (HJ1.out.1.below hl) (obj_below hl HJ1.out.2)); clear hl)
    refine hK.out _ _ HJ2.out.2 (fun hHeld => ?_)
    clear hK K
    try simp only [Act.put, List.setIfInBounds_toArray, List.set_cons_zero, List.set_cons_succ]
    clear hHeld
    obtain ⟨v2, hv2⟩ := HJ2.out.1.rl
    have HV2 := Aside0.mk hv2
    clear hv2
    refine readyN (rs := [11]) (by kernel_rfl) (by simp) ?_
    refine eachN.cons rfl (fun K hK => ?_) eachN.nil
    go_simp
    go_wp2_with (go_at_call 28; refine (RSet_calls HV2.out id k m).mono ?_; rintro e w4 (⟨i, x, hi, ha, rfl, hn⟩ | ⟨ha, rfl, hn⟩) <;> (first | (exfalso; rw [HBE.out] at ha; cases ha; done) | (have HJ3 := Aside0.mk (And.intro (HJ2.out.1.rn hn) (HJ2.out.1.keepR hn.fr HJ2.out.2 (by decide))); clear hn ha)))
    refine hK.out _ _ HJ3.out.2 (fun hHeld => ?_)
    clear hK K
    try simp only [Act.put, List.setIfInBounds_toArray, List.set_cons_zero, List.set_cons_succ]
    refine takeF (i := 12) (v := _) 83 rfl rfl (by kernel_rfl) (by kernel_rfl) (by kernel_rfl) (fun _ _ _ h => h) (Or.inl ⟨by rfl, fun w' _ => by first | (go_simp; done) | (go_simp; with_reducible rfl) | (go_simp; rfl)⟩) ?_
    try simp only [Act.put, List.setIfInBounds_toArray, List.set_cons_zero, List.set_cons_succ]
    refine takeF (i := 13) (v := _) 6 rfl rfl (by kernel_rfl) (by kernel_rfl) (by kernel_rfl) (fun _ _ _ h => h) (Or.inl ⟨by rfl, fun w' _ => by first | (go_simp; done) | (go_simp; with_reducible rfl) | (go_simp; rfl)⟩) ?_
    try simp only [Act.put, List.setIfInBounds_toArray, List.set_cons_zero, List.set_cons_succ]
    refine doneN (by kernel_rfl) ?_ _
    go_wp2
    go_ret
    exact ⟨by simp, nx, M, by omega, HJ3.out.1⟩
  | some y =>
    have HBE := Aside0.mk hb
    clear hb
    go_upto_region 11 with fail
    clear c0 c1 c2 c3 c4
    refine startN (S := fun w' => w'.heap[g]? = some (.cells (aO 3 k m id n) 35 (0, 0))) (N := [2, 4, 8, 10]) (by kernel_rfl) ?_
    have hHeld : (fun w' => w'.heap[g]? = some (.cells (aO 3 k m id n) 35 (0, 0))) w1.drew := HX0.out
    refine takeF (i := 0) (v := _) 71 rfl rfl (by kernel_rfl) (by kernel_rfl) (by kernel_rfl) (fun _ _ _ h => h) (Or.inl ⟨by rfl, fun w' _ => by first | (go_simp; done) | (go_simp; with_reducible rfl) | (go_simp; rfl)⟩) ?_
    try simp only [Act.put, List.setIfInBounds_toArray, List.set_cons_zero, List.set_cons_succ]
    refine takeF (i := 1) (v := _) 72 rfl rfl (by kernel_rfl) (by kernel_rfl) (by kernel_rfl) (fun _ _ _ h => h) (Or.inl ⟨by rfl, fun w' _ => by first | (go_simp; done) | (go_simp; with_reducible rfl) | (go_simp; rfl)⟩) ?_
    try simp only [Act.put, List.setIfInBounds_toArray, List.set_cons_zero, List.set_cons_succ]
    refine takeN (i := 2) (v := _) 73 rfl rfl (by kernel_rfl) (by kernel_rfl) (by kernel_rfl) (fun _ _ _ h => h) (by kernel_rfl) (Or.inl ⟨by rfl, fun w' hW => by have hq0 := (blkO hW).2.1; have hq1 := (blkO hW).2.2.1; have hq2 := (blkO hW).2.2.2.1; first | (go_simp; done) | (go_simp; with_reducible rfl) | (go_simp; rfl)⟩) hHeld ?_
    try simp only [Act.put, List.setIfInBounds_toArray, List.set_cons_zero, List.set_cons_succ]
    refine takeF (i := 3) (v := _) 74 rfl rfl (by kernel_rfl) (by kernel_rfl) (by kernel_rfl) (fun _ _ _ h => h) (Or.inl ⟨by rfl, fun w' _ => by first | (go_simp; done) | (go_simp; with_reducible rfl) | (go_simp; rfl)⟩) ?_
    try simp only [Act.put, List.setIfInBounds_toArray, List.set_cons_zero, List.set_cons_succ]
    refine takeN (i := 4) (v := _) 75 rfl rfl (by kernel_rfl) (by kernel_rfl) (by kernel_rfl) (fun _ _ _ h => h) (by kernel_rfl) (Or.inl ⟨by rfl, fun w' hW => by have hq0 := (blkO hW).2.1; have hq1 := (blkO hW).2.2.1; have hq2 := (blkO hW).2.2.2.1; first | (go_simp; done) | (go_simp; with_reducible rfl) | (go_simp; rfl)⟩) hHeld ?_
    try simp only [Act.put, List.setIfInBounds_toArray, List.set_cons_zero, List.set_cons_succ]
    refine takeF (i := 6) (v := _) 77 rfl rfl (by kernel_rfl) (by kernel_rfl) (by kernel_rfl) (fun _ _ _ h => h) (Or.inl ⟨by rfl, fun w' _ => by first | (go_simp; done) | (go_simp; with_reducible rfl) | (go_simp; rfl)⟩) ?_
    try simp only [Act.put, List.setIfInBounds_toArray, List.set_cons_zero, List.set_cons_succ]
    refine takeF (i := 7) (v := _) 78 rfl rfl (by kernel_rfl) (by kernel_rfl) (by kernel_rfl) (fun _ _ _ h => h) (Or.inl ⟨by rfl, fun w' _ => by first | (go_simp; done) | (go_simp; with_reducible rfl) | (go_simp; rfl)⟩) ?_
    try simp only [Act.put, List.setIfInBounds_toArray, List.set_cons_zero, List.set_cons_succ]
    refine takeN (i := 8) (v := _) 79 rfl rfl (by kernel_rfl) (by kernel_rfl) (by kernel_rfl) (fun _ _ _ h => h) (by kernel_rfl) (Or.inl ⟨by rfl, fun w' hW => by have hq0 := (blkO hW).2.1; have hq1 := (blkO hW).2.2.1; have hq2 := (blkO hW).2.2.2.1; first | (go_simp; done) | (go_simp; with_reducible rfl) | (go_simp; rfl)⟩) hHeld ?_
    try simp only [Act.put, List.setIfInBounds_toArray, List.set_cons_zero, List.set_cons_succ]
    refine takeF (i := 9) (v := _) 80 rfl rfl (by kernel_rfl) (by kernel_rfl) (by kernel_rfl) (fun _ _ _ h => h) (Or.inl ⟨by rfl, fun w' _ => by first | (go_simp; done) | (go_simp; with_reducible rfl) | (go_simp; rfl)⟩) ?_
    try simp only [Act.put, List.setIfInBounds_toArray, List.set_cons_zero, List.set_cons_succ]
    refine takeN (i := 10) (v := _) 81 rfl rfl (by kernel_rfl) (by kernel_rfl) (by kernel_rfl) (fun _ _ _ h => h) (by kernel_rfl) (Or.inl ⟨by rfl, fun w' hW => by have hq0 := (blkO hW).2.1; have hq1 := (blkO hW).2.2.1; have hq2 := (blkO hW).2.2.2.1; first | (go_simp; done) | (go_simp; with_reducible rfl) | (go_simp; rfl)⟩) hHeld ?_
    try simp only [Act.put, List.setIfInBounds_toArray, List.set_cons_zero, List.set_cons_succ]
    have HJ1 := Aside0.mk (And.intro (HJ0.out.below (Below.refl _ _).drew) HX0.out)
    clear hHeld
    replace HJ1 : Aside0 (Bo w0 b mb B rb C nx M w1.drew ∧ w1.drew.heap[g]? = some (.cells (aO 3 k m id n) 35 (0, 0))) := ⟨HJ1.out⟩
    generalize w1.drew = w2 at HJ1 ⊢
    refine readyN (rs := [5]) (by kernel_rfl) (by simp) ?_
    refine eachN.cons rfl (fun K hK => ?_) eachN.nil
    go_simp
    go_wp2_with (go_at_call 18; refine (Set_some HJ1.out.1.ax HID.out HBE.out k m).mono ?_; rintro r w3 ⟨rfl, hx, hg⟩; have HJ2 := Aside0.mk (And.intro (HJ1.out.1.ag hg hx) (HJ1.out.1.keepA hg HJ1.out.2 (by decide) ⟨by decide, by decide⟩)); clear hx hg)
    refine hK.out _ _ HJ2.out.2 (fun hHeld => ?_)
    clear hK K
    try simp only [Act.put, List.setIfInBounds_toArray, List.set_cons_zero, List.set_cons_succ]
    clear hHeld
    obtain ⟨v2, hv2⟩ := HJ2.out.1.rl
    have HV2 := Aside0.mk hv2
    clear hv2
    refine readyN (rs := [11]) (by kernel_rfl) (by simp) ?_
    refine eachN.cons rfl (fun K hK => ?_) eachN.nil
    go_simp
    go_wp2_with (go_at_call 28; refine (RSet_calls HV2.out id k m).mono ?_; rintro e w4 (⟨i, x, hi, ha, rfl, hn⟩ | ⟨ha, rfl, hn⟩) <;> (first | (exfalso; rw [HBE.out] at ha; cases ha; done) | (have hxy : x = y := (by rw [HBE.out] at ha; injection ha with ha; exact ha.symm); subst hxy; have HJ3 := Aside0.mk (And.intro (HJ2.out.1.rn hn) (HJ2.out.1.keepR hn.fr HJ2.out.2 (by decide))); have HEQ : Aside0 (M.set i (newE x k m) = setM M (newE x k m)) := ⟨set_at HINC.out hi⟩; clear hn ha hi)))
    refine hK.out _ _ HJ3.out.2 (fun hHeld => ?_)
    clear hK K
    try simp only [Act.put, List.setIfInBounds_toArray, List.set_cons_zero, List.set_cons_succ]
    refine takeF (i := 12) (v := _) 83 rfl rfl (by kernel_rfl) (by kernel_rfl) (by kernel_rfl) (fun _ _ _ h => h) (Or.inl ⟨by rfl, fun w' _ => by first | (go_simp; done) | (go_simp; with_reducible rfl) | (go_simp; rfl)⟩) ?_
    try simp only [Act.put, List.setIfInBounds_toArray, List.set_cons_zero, List.set_cons_succ]
    refine takeF (i := 13) (v := _) 6 rfl rfl (by kernel_rfl) (by kernel_rfl) (by kernel_rfl) (fun _ _ _ h => h) (Or.inl ⟨by rfl, fun w' _ => by first | (go_simp; done) | (go_simp; with_reducible rfl) | (go_simp; rfl)⟩) ?_
    try simp only [Act.put, List.setIfInBounds_toArray, List.set_cons_zero, List.set_cons_succ]
    refine doneN (by kernel_rfl) ?_ _
    go_wp2
    go_ret
    exact ⟨by simp, nx, setM M (newE x k m), by omega, by have h9 := HJ3.out.1; rw [HEQ.out] at h9; exact h9⟩
set_option maxRecDepth 100000 in
set_option maxHeartbeats 4000000 in
theorem do4 {w0 w : World} {b mb B rb C : Nat} {nx : Int} {M : List En} (h : Bo w0 b mb B rb C nx M w) (hnx : nx ≤ 1000) (k m id n : Int) (hid : (Lit.int .i64 id).wf = true) : Calls Try.prog 10 #[.pointer (some ⟨b, 0, none⟩), .pointer (some ⟨rb, 0, none⟩), .agg (aO 4 k m id n)] w fun r w' => DoP w0 b mb B rb C nx r w' := by
  have HID := Aside0.mk hid
  clear hid
  have HX0 : Aside0 ((w.alloc (.cells (aO 4 k m id n) 35)).heap[w.heap.size]? = some (.cells (aO 4 k m id n) 35 (0, 0))) := ⟨World.alloc_heap_new _ _⟩
  have HJ0 : Aside0 (Bo w0 b mb B rb C nx M (w.alloc (.cells (aO 4 k m id n) 35))) := ⟨Jp.below h ((Below.refl _ _).alloc (Nat.le_refl _) _)⟩
  have HN := Aside0.mk hnx
  clear h hnx
  go_enter Try.func10, Try.ntmps10
  go_upto_region 1 with fail
  generalize w.alloc (.cells (aO 4 k m id n) 35) = w1 at HX0 HJ0 ⊢
  generalize w.heap.size = g at HX0 ⊢
  obtain ⟨c0, c1, c2, c3, c4⟩ := blkO HX0.out
  have HINC : Aside0 (M.Pairwise (fun x y => x.id < y.id)) := ⟨HJ0.out.ax.inc⟩
  cases hb : atM M id with
  | none =>
    have HBE := Aside0.mk hb
    clear hb
    go_upto_region 13 with fail
    clear c0 c1 c2 c3 c4
    refine startN (S := fun w' => w'.heap[g]? = some (.cells (aO 4 k m id n) 35 (0, 0))) (N := [2, 6]) (by kernel_rfl) ?_
    have hHeld : (fun w' => w'.heap[g]? = some (.cells (aO 4 k m id n) 35 (0, 0))) w1.drew := HX0.out
    refine takeF (i := 0) (v := _) 86 rfl rfl (by kernel_rfl) (by kernel_rfl) (by kernel_rfl) (fun _ _ _ h => h) (Or.inl ⟨by rfl, fun w' _ => by first | (go_simp; done) | (go_simp; with_reducible rfl) | (go_simp; rfl)⟩) ?_
    try simp only [Act.put, List.setIfInBounds_toArray, List.set_cons_zero, List.set_cons_succ]
    refine takeF (i := 1) (v := _) 87 rfl rfl (by kernel_rfl) (by kernel_rfl) (by kernel_rfl) (fun _ _ _ h => h) (Or.inl ⟨by rfl, fun w' _ => by first | (go_simp; done) | (go_simp; with_reducible rfl) | (go_simp; rfl)⟩) ?_
    try simp only [Act.put, List.setIfInBounds_toArray, List.set_cons_zero, List.set_cons_succ]
    refine takeN (i := 2) (v := _) 88 rfl rfl (by kernel_rfl) (by kernel_rfl) (by kernel_rfl) (fun _ _ _ h => h) (by kernel_rfl) (Or.inl ⟨by rfl, fun w' hW => by have hq0 := (blkO hW).2.1; have hq1 := (blkO hW).2.2.1; have hq2 := (blkO hW).2.2.2.1; first | (go_simp; done) | (go_simp; with_reducible rfl) | (go_simp; rfl)⟩) hHeld ?_
    try simp only [Act.put, List.setIfInBounds_toArray, List.set_cons_zero, List.set_cons_succ]
    refine takeF (i := 4) (v := _) 90 rfl rfl (by kernel_rfl) (by kernel_rfl) (by kernel_rfl) (fun _ _ _ h => h) (Or.inl ⟨by rfl, fun w' _ => by first | (go_simp; done) | (go_simp; with_reducible rfl) | (go_simp; rfl)⟩) ?_
    try simp only [Act.put, List.setIfInBounds_toArray, List.set_cons_zero, List.set_cons_succ]
    refine takeF (i := 5) (v := _) 91 rfl rfl (by kernel_rfl) (by kernel_rfl) (by kernel_rfl) (fun _ _ _ h => h) (Or.inl ⟨by rfl, fun w' _ => by first | (go_simp; done) | (go_simp; with_reducible rfl) | (go_simp; rfl)⟩) ?_
    try simp only [Act.put, List.setIfInBounds_toArray, List.set_cons_zero, List.set_cons_succ]
    refine takeN (i := 6) (v := _) 92 rfl rfl (by kernel_rfl) (by kernel_rfl) (by kernel_rfl) (fun _ _ _ h => h) (by kernel_rfl) (Or.inl ⟨by rfl, fun w' hW => by have hq0 := (blkO hW).2.1; have hq1 := (blkO hW).2.2.1; have hq2 := (blkO hW).2.2.2.1; first | (go_simp; done) | (go_simp; with_reducible rfl) | (go_simp; rfl)⟩) hHeld ?_
    try simp only [Act.put, List.setIfInBounds_toArray, List.set_cons_zero, List.set_cons_succ]
    have HJ1 := Aside0.mk (And.intro (HJ0.out.below (Below.refl _ _).drew) HX0.out)
    clear hHeld
    replace HJ1 : Aside0 (Bo w0 b mb B rb C nx M w1.drew ∧ w1.drew.heap[g]? = some (.cells (aO 4 k m id n) 35 (0, 0))) := ⟨HJ1.out⟩
    generalize w1.drew = w2 at HJ1 ⊢
    refine readyN (rs := [3]) (by kernel_rfl) (by simp) ?_
    refine eachN.cons rfl (fun K hK => ?_) eachN.nil
    go_simp
    go_wp2_with (go_at_call 17; refine (Drop_none HJ1.out.1.ax HID.out HBE.out).mono ?_; rintro r w3 ⟨rfl, hw3⟩; have HJ2 : Aside0 (Jp w0 b mb B rb C nx M ⟨nx - 1, M⟩ w3 ∧ w3.heap[g]? = some (.cells (aO 4 k m id n) 35 (0, 0))) := ⟨by rw [hw3]; exact HJ1.out⟩; clear hw3)
    refine hK.out _ _ HJ2.out.2 (fun hHeld => ?_)
    clear hK K
    try simp only [Act.put, List.setIfInBounds_toArray, List.set_cons_zero, List.set_cons_succ]
    clear hHeld
    obtain ⟨v2, hv2⟩ := HJ2.out.1.rl
    have HV2 := Aside0.mk hv2
    clear hv2
    refine readyN (rs := [7]) (by kernel_rfl) (by simp) ?_
    refine eachN.cons rfl (fun K hK => ?_) eachN.nil
    go_simp
    go_wp2_with (go_at_call 29; refine (RDrop_calls HV2.out id).mono ?_; rintro e w4 (⟨i, x, hi, ha, rfl, hn⟩ | ⟨ha, rfl, hn⟩) <;> (first | (exfalso; rw [HBE.out] at ha; cases ha; done) | (have HJ3 := Aside0.mk (And.intro (HJ2.out.1.rn hn) (HJ2.out.1.keepR hn.fr HJ2.out.2 (by decide))); clear hn ha)))
    refine hK.out _ _ HJ3.out.2 (fun hHeld => ?_)
    clear hK K
    try simp only [Act.put, List.setIfInBounds_toArray, List.set_cons_zero, List.set_cons_succ]
    refine takeF (i := 8) (v := _) 94 rfl rfl (by kernel_rfl) (by kernel_rfl) (by kernel_rfl) (fun _ _ _ h => h) (Or.inl ⟨by rfl, fun w' _ => by first | (go_simp; done) | (go_simp; with_reducible rfl) | (go_simp; rfl)⟩) ?_
    try simp only [Act.put, List.setIfInBounds_toArray, List.set_cons_zero, List.set_cons_succ]
    refine takeF (i := 9) (v := _) 6 rfl rfl (by kernel_rfl) (by kernel_rfl) (by kernel_rfl) (fun _ _ _ h => h) (Or.inl ⟨by rfl, fun w' _ => by first | (go_simp; done) | (go_simp; with_reducible rfl) | (go_simp; rfl)⟩) ?_
    try simp only [Act.put, List.setIfInBounds_toArray, List.set_cons_zero, List.set_cons_succ]
    refine doneN (by kernel_rfl) ?_ _
    go_wp2
    go_ret
    exact ⟨by simp, nx, M, by omega, HJ3.out.1⟩
  | some y =>
    have HBE := Aside0.mk hb
    clear hb
    go_upto_region 13 with fail
    clear c0 c1 c2 c3 c4
    refine startN (S := fun w' => w'.heap[g]? = some (.cells (aO 4 k m id n) 35 (0, 0))) (N := [2, 6]) (by kernel_rfl) ?_
    have hHeld : (fun w' => w'.heap[g]? = some (.cells (aO 4 k m id n) 35 (0, 0))) w1.drew := HX0.out
    refine takeF (i := 0) (v := _) 86 rfl rfl (by kernel_rfl) (by kernel_rfl) (by kernel_rfl) (fun _ _ _ h => h) (Or.inl ⟨by rfl, fun w' _ => by first | (go_simp; done) | (go_simp; with_reducible rfl) | (go_simp; rfl)⟩) ?_
    try simp only [Act.put, List.setIfInBounds_toArray, List.set_cons_zero, List.set_cons_succ]
    refine takeF (i := 1) (v := _) 87 rfl rfl (by kernel_rfl) (by kernel_rfl) (by kernel_rfl) (fun _ _ _ h => h) (Or.inl ⟨by rfl, fun w' _ => by first | (go_simp; done) | (go_simp; with_reducible rfl) | (go_simp; rfl)⟩) ?_
    try simp only [Act.put, List.setIfInBounds_toArray, List.set_cons_zero, List.set_cons_succ]
    refine takeN (i := 2) (v := _) 88 rfl rfl (by kernel_rfl) (by kernel_rfl) (by kernel_rfl) (fun _ _ _ h => h) (by kernel_rfl) (Or.inl ⟨by rfl, fun w' hW => by have hq0 := (blkO hW).2.1; have hq1 := (blkO hW).2.2.1; have hq2 := (blkO hW).2.2.2.1; first | (go_simp; done) | (go_simp; with_reducible rfl) | (go_simp; rfl)⟩) hHeld ?_
    try simp only [Act.put, List.setIfInBounds_toArray, List.set_cons_zero, List.set_cons_succ]
    refine takeF (i := 4) (v := _) 90 rfl rfl (by kernel_rfl) (by kernel_rfl) (by kernel_rfl) (fun _ _ _ h => h) (Or.inl ⟨by rfl, fun w' _ => by first | (go_simp; done) | (go_simp; with_reducible rfl) | (go_simp; rfl)⟩) ?_
    try simp only [Act.put, List.setIfInBounds_toArray, List.set_cons_zero, List.set_cons_succ]
    refine takeF (i := 5) (v := _) 91 rfl rfl (by kernel_rfl) (by kernel_rfl) (by kernel_rfl) (fun _ _ _ h => h) (Or.inl ⟨by rfl, fun w' _ => by first | (go_simp; done) | (go_simp; with_reducible rfl) | (go_simp; rfl)⟩) ?_
    try simp only [Act.put, List.setIfInBounds_toArray, List.set_cons_zero, List.set_cons_succ]
    refine takeN (i := 6) (v := _) 92 rfl rfl (by kernel_rfl) (by kernel_rfl) (by kernel_rfl) (fun _ _ _ h => h) (by kernel_rfl) (Or.inl ⟨by rfl, fun w' hW => by have hq0 := (blkO hW).2.1; have hq1 := (blkO hW).2.2.1; have hq2 := (blkO hW).2.2.2.1; first | (go_simp; done) | (go_simp; with_reducible rfl) | (go_simp; rfl)⟩) hHeld ?_
    try simp only [Act.put, List.setIfInBounds_toArray, List.set_cons_zero, List.set_cons_succ]
    have HJ1 := Aside0.mk (And.intro (HJ0.out.below (Below.refl _ _).drew) HX0.out)
    clear hHeld
    replace HJ1 : Aside0 (Bo w0 b mb B rb C nx M w1.drew ∧ w1.drew.heap[g]? = some (.cells (aO 4 k m id n) 35 (0, 0))) := ⟨HJ1.out⟩
    generalize w1.drew = w2 at HJ1 ⊢
    refine readyN (rs := [3]) (by kernel_rfl) (by simp) ?_
    refine eachN.cons rfl (fun K hK => ?_) eachN.nil
    go_simp
    go_wp2_with (go_at_call 17; refine (Drop_some HJ1.out.1.ax HID.out HBE.out).mono ?_; rintro r w3 ⟨rfl, hx, hg⟩; have HJ2 := Aside0.mk (And.intro (HJ1.out.1.ag hg hx) (HJ1.out.1.keepA hg HJ1.out.2 (by decide) ⟨by decide, by decide⟩)); clear hx hg)
    refine hK.out _ _ HJ2.out.2 (fun hHeld => ?_)
    clear hK K
    try simp only [Act.put, List.setIfInBounds_toArray, List.set_cons_zero, List.set_cons_succ]
    clear hHeld
    obtain ⟨v2, hv2⟩ := HJ2.out.1.rl
    have HV2 := Aside0.mk hv2
    clear hv2
    refine readyN (rs := [7]) (by kernel_rfl) (by simp) ?_
    refine eachN.cons rfl (fun K hK => ?_) eachN.nil
    go_simp
    go_wp2_with (go_at_call 29; refine (RDrop_calls HV2.out id).mono ?_; rintro e w4 (⟨i, x, hi, ha, rfl, hn⟩ | ⟨ha, rfl, hn⟩) <;> (first | (exfalso; rw [HBE.out] at ha; cases ha; done) | (have hxy : x = y := (by rw [HBE.out] at ha; injection ha with ha; exact ha.symm); subst hxy; have HJ3 := Aside0.mk (And.intro (HJ2.out.1.rn hn) (HJ2.out.1.keepR hn.fr HJ2.out.2 (by decide))); have HEQ : Aside0 (M.take i ++ M.drop (i + 1) = rem M id) := ⟨by rw [← (atM_mem HBE.out).2]; exact take_drop_rem HINC.out hi⟩; clear hn ha hi)))
    refine hK.out _ _ HJ3.out.2 (fun hHeld => ?_)
    clear hK K
    try simp only [Act.put, List.setIfInBounds_toArray, List.set_cons_zero, List.set_cons_succ]
    refine takeF (i := 8) (v := _) 94 rfl rfl (by kernel_rfl) (by kernel_rfl) (by kernel_rfl) (fun _ _ _ h => h) (Or.inl ⟨by rfl, fun w' _ => by first | (go_simp; done) | (go_simp; with_reducible rfl) | (go_simp; rfl)⟩) ?_
    try simp only [Act.put, List.setIfInBounds_toArray, List.set_cons_zero, List.set_cons_succ]
    refine takeF (i := 9) (v := _) 6 rfl rfl (by kernel_rfl) (by kernel_rfl) (by kernel_rfl) (fun _ _ _ h => h) (Or.inl ⟨by rfl, fun w' _ => by first | (go_simp; done) | (go_simp; with_reducible rfl) | (go_simp; rfl)⟩) ?_
    try simp only [Act.put, List.setIfInBounds_toArray, List.set_cons_zero, List.set_cons_succ]
    refine doneN (by kernel_rfl) ?_ _
    go_wp2
    go_ret
    exact ⟨by simp, nx, rem M id, by omega, by have h9 := HJ3.out.1; rw [HEQ.out] at h9; exact h9⟩
end Go.Proofs.Ythjppjcmapgkpaa.QAg
