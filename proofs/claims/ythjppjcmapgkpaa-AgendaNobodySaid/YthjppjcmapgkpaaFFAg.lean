/- Agenda: the document's Push, Drop. Written by a program of this repo (tools/gen_ag11.py). -/
import Derived.Test.YthjppjcmapgkpaaEEAg
namespace Go.Proofs.Ythjppjcmapgkpaa.QAg
open Go.RowKit Go.Proofs.YthjppjcmapgkpaaW.PrintWords Go.Proofs.YthjppjcmapgkpaaW.PrintLast Go.Proofs.YthjppjcmapgkpaaW.PrintMore
set_option linter.unusedVariables false
set_option linter.unusedSimpArgs false
def newMs (r : RS) (k m : Int) : En := ⟨0, r.last, k, m⟩
def pushR (r : RS) (k m : Int) : RS := { last := r.last + 1, L := r.L ++ [⟨0, r.last + 1, k, m⟩] }
theorem blk2 {w : World} {g : Nat} {k m : Int} (h : w.heap[g]? = some (.cells (aT k m) 27 (0, 0))) : w.cell? ⟨g, 0, none⟩ = some (.int .i8 k) ∧ w.cell? ⟨g, 1, none⟩ = some (.int .i64 m) := by
  constructor <;> (simp only [World.cell?, h]; rfl)
set_option maxRecDepth 100000 in
set_option maxHeartbeats 4000000 in
theorem RPush_calls {w : World} {rb B : Nat} {ro : RS} {v : Value} (h : RL w rb B ro v) (h1 : ro.L.length + 1 ≤ 100000) (h2 : 0 ≤ ro.last) (h3 : ro.last < 1000000) (k m : Int) : Calls Try.prog 26 #[.pointer (some ⟨rb, 0, none⟩), .agg (aT k m)] w fun e w' =>
    e = .returned (.int .i64 (ro.last + 1)) ∧ Rn rb B (pushR ro k m) w w' := by
  obtain ⟨A, c, rfl, hc⟩ := h.form
  have HB0 := Aside0.mk ((Rb.start h).alloc (.cells (aT k m) 27))
  have HLEN := Aside0.mk h.len
  obtain ⟨i0, hi0, hz0, hz1, hz2⟩ := info_parts info40
  have HI0 := Aside0.mk (And.intro hi0 (And.intro hz0 (And.intro hz1 hz2)))
  clear hi0 hz0 hz1 hz2
  have q1 : wrap64 (ro.last + 1) = ro.last + 1 := (w64_id (by omega) (by omega)).1
  have q2 : IntKind.i64.wrap (ro.last + 1) = ro.last + 1 := (w64_id (by omega) (by omega)).2
  obtain ⟨r, hr⟩ : ∃ r : RS, r = { last := ro.last + 1, L := ro.L } := ⟨_, rfl⟩
  have hl : r.L = ro.L := by rw [hr]
  have HROOM : Aside0 (r.L.length + 1 ≤ 100000) := ⟨by rw [hl]; exact h1⟩
  have HPR : Aside0 (ro.last + 1 = r.last ∧ pushR ro k m = { r with L := r.L ++ [newMs r k m] }) := ⟨by rw [hr], by rw [hr]; rfl⟩
  have HRO := Aside0.mk hr
  clear h hc h1 h2 h3 hr
  go_enter Try.func26, Try.ntmps26
  go_upto_region 1 with fail
  generalize w.alloc (.cells (aT k m) 27) = w1 at HB0 ⊢
  have c1 := HB0.out.rl.cells.2
  have f1 := HB0.out.rl.frozen 1
  go_upto_region 2 with fail
  clear c1 f1
  have HB5 : Aside0 (Rb w rb B r (.slice A ro.L.length c) [(w.heap.size, .cells (aT k m) 27)] (w1.setCell ⟨rb, 1, none⟩ (.int .i64 (ro.last + 1)))) := ⟨HB0.out.setF 1 _ (by rw [HRO.out]; rfl) (by rw [HRO.out])⟩
  clear HB0 HRO
  try change Code.wp _ _ _ _ (w1.setCell ⟨rb, 1, none⟩ (.int .i64 (ro.last + 1)))
  generalize w1.setCell ⟨rb, 1, none⟩ (.int .i64 (ro.last + 1)) = w5 at HB5 ⊢
  clear q1 q2 HLEN
  rw [← hl] at HB5
  clear hl
  refine startN (S := fun w' => RL w' rb B r (.slice A r.L.length c) ∧ w'.heap[w.heap.size]? = some (.cells (aT k m) 27 (0, 0))) (N := [5, 7, 11]) (by kernel_rfl) ?_
  have hHeld : (fun w' => RL w' rb B r (.slice A r.L.length c) ∧ w'.heap[w.heap.size]? = some (.cells (aT k m) 27 (0, 0))) w5.drew := ⟨(HB5.out.below (Below.refl _ _).drew).rl, (HB5.out.below (Below.refl _ _).drew).blk (g := w.heap.size) (C := aT k m) (t := 27) (by simp)⟩
  refine takeF (i := 0) (v := _) 12 rfl rfl (by kernel_rfl) (by kernel_rfl) (by kernel_rfl) (fun _ _ _ h => h) (Or.inl ⟨by rfl, fun w' _ => by first | (go_simp; done) | (go_simp; with_reducible rfl) | (go_simp; rfl)⟩) ?_
  try simp only [Act.put, List.setIfInBounds_toArray, List.set_cons_zero, List.set_cons_succ]
  refine takeF (i := 2) (v := _) 14 rfl rfl (by kernel_rfl) (by kernel_rfl) (by kernel_rfl) (fun _ _ _ h => h) (Or.inl ⟨by rfl, fun w' _ => by first | (go_simp; done) | (go_simp; with_reducible rfl) | (go_simp; rfl)⟩) ?_
  try simp only [Act.put, List.setIfInBounds_toArray, List.set_cons_zero, List.set_cons_succ]
  refine takeF (i := 3) (v := _) 15 rfl rfl (by kernel_rfl) (by kernel_rfl) (by kernel_rfl) (fun _ _ _ h => h) (Or.inl ⟨by rfl, fun w' _ => by first | (go_simp; done) | (go_simp; with_reducible rfl) | (go_simp; rfl)⟩) ?_
  try simp only [Act.put, List.setIfInBounds_toArray, List.set_cons_zero, List.set_cons_succ]
  refine takeF (i := 4) (v := _) 16 rfl rfl (by kernel_rfl) (by kernel_rfl) (by kernel_rfl) (fun _ _ _ h => h) (Or.inl ⟨by rfl, fun w' _ => by first | (go_simp; done) | (go_simp; with_reducible rfl) | (go_simp; rfl)⟩) ?_
  try simp only [Act.put, List.setIfInBounds_toArray, List.set_cons_zero, List.set_cons_succ]
  refine takeN (i := 5) (v := _) 17 rfl rfl (by kernel_rfl) (by kernel_rfl) (by kernel_rfl) (fun _ _ _ h => h) (by kernel_rfl) (Or.inl ⟨by rfl, fun w' hW => by have hq0 := hW.1.cells.1; have hq1 := hW.1.cells.2; have hq2 := (blk2 hW.2).1; have hq3 := (blk2 hW.2).2; first | (go_simp; done) | (go_simp; with_reducible rfl) | (go_simp; rfl)⟩) hHeld ?_
  try simp only [Act.put, List.setIfInBounds_toArray, List.set_cons_zero, List.set_cons_succ]
  refine takeN (i := 7) (v := _) 19 rfl rfl (by kernel_rfl) (by kernel_rfl) (by kernel_rfl) (fun _ _ _ h => h) (by kernel_rfl) (Or.inl ⟨by rfl, fun w' hW => by have hq0 := hW.1.cells.1; have hq1 := hW.1.cells.2; have hq2 := (blk2 hW.2).1; have hq3 := (blk2 hW.2).2; first | (go_simp; done) | (go_simp; with_reducible rfl) | (go_simp; rfl)⟩) hHeld ?_
  try simp only [Act.put, List.setIfInBounds_toArray, List.set_cons_zero, List.set_cons_succ]
  refine takeF (i := 8) (v := _) 20 rfl rfl (by kernel_rfl) (by kernel_rfl) (by kernel_rfl) (fun _ _ _ h => h) (Or.inl ⟨by rfl, fun w' _ => by first | (go_simp; done) | (go_simp; with_reducible rfl) | (go_simp; rfl)⟩) ?_
  try simp only [Act.put, List.setIfInBounds_toArray, List.set_cons_zero, List.set_cons_succ]
  refine takeF (i := 9) (v := _) 21 rfl rfl (by kernel_rfl) (by kernel_rfl) (by kernel_rfl) (fun _ _ _ h => h) (Or.inl ⟨by rfl, fun w' _ => by first | (go_simp; done) | (go_simp; with_reducible rfl) | (go_simp; rfl)⟩) ?_
  try simp only [Act.put, List.setIfInBounds_toArray, List.set_cons_zero, List.set_cons_succ]
  refine takeF (i := 10) (v := _) 22 rfl rfl (by kernel_rfl) (by kernel_rfl) (by kernel_rfl) (fun _ _ _ h => h) (Or.inl ⟨by rfl, fun w' _ => by first | (go_simp; done) | (go_simp; with_reducible rfl) | (go_simp; rfl)⟩) ?_
  try simp only [Act.put, List.setIfInBounds_toArray, List.set_cons_zero, List.set_cons_succ]
  refine takeN (i := 11) (v := _) 23 rfl rfl (by kernel_rfl) (by kernel_rfl) (by kernel_rfl) (fun _ _ _ h => h) (by kernel_rfl) (Or.inl ⟨by rfl, fun w' hW => by have hq0 := hW.1.cells.1; have hq1 := hW.1.cells.2; have hq2 := (blk2 hW.2).1; have hq3 := (blk2 hW.2).2; first | (go_simp; done) | (go_simp; with_reducible rfl) | (go_simp; rfl)⟩) hHeld ?_
  try simp only [Act.put, List.setIfInBounds_toArray, List.set_cons_zero, List.set_cons_succ]
  refine takeF (i := 12) (v := _) 24 rfl rfl (by kernel_rfl) (by kernel_rfl) (by kernel_rfl) (fun _ _ _ h => h) (Or.inl ⟨by rfl, fun w' _ => by first | (go_simp; done) | (go_simp; with_reducible rfl) | (go_simp; rfl)⟩) ?_
  try simp only [Act.put, List.setIfInBounds_toArray, List.set_cons_zero, List.set_cons_succ]
  have HX0 := Aside0.mk (HB5.out.below (Below.refl _ _).drew)
  clear hHeld
  generalize w5.drew = x0 at HX0 ⊢
  refine readyN (rs := [1, 13]) (by kernel_rfl) (by simp) ?_
  refine eachN.cons rfl (fun K hK => ?_) (eachN.cons rfl (fun K hK => ?_) eachN.nil)
  · go_simp
    have HX1 := Aside0.mk (HX0.out.alloc (.cells #[] 40))
    try change K _ (x0.alloc (.cells #[] 40))
    generalize x0.alloc (.cells #[] 40) = x1 at HX1 ⊢
    generalize x0.heap.size = g9 at HX1 ⊢
    refine hK.out _ _ ⟨HX1.out.rl, HX1.out.blk (g := w.heap.size) (C := aT k m) (t := 27) (by simp)⟩ (fun hHeld => ?_)
    clear hK K
    try simp only [Act.put, List.setIfInBounds_toArray, List.set_cons_zero, List.set_cons_succ]
    clear hHeld
    refine readyN (rs := [6, 13]) (by kernel_rfl) (by simp) ?_
    refine eachN.cons rfl (fun K hK => ?_) (eachN.cons rfl (fun K hK => ?_) eachN.nil)
    · obtain ⟨v2, x2, hrun, hrow, hgr⟩ := run_copy (P := Try.prog) x1 30 30 40 i0 _ 3 24 Try.underlying30 HI0.out.1 HI0.out.2.1 HI0.out.2.2.1 HI0.out.2.2.2 rfl (by decide) ⟨g9, 0, none⟩ A r.L.length c (fM r.L) (fM_len _) HX1.out.rl.row.src (by have := HROOM.out; unfold maxLen; omega) (by have := HROOM.out; omega)
      obtain ⟨A2, c2, rfl, hc2⟩ := hrow.form
      have HRUN := Aside0.mk hrun
      have HR2 := Aside0.mk hrow
      have HX2 := Aside0.mk (HX1.out.below (grown_below hgr))
      obtain ⟨xc, hxc⟩ : ∃ xc, x1 = xc := ⟨_, rfl⟩
      have HC2 : Aside0 (Below xc.heap.size xc x2) := ⟨by rw [← hxc]; exact grown_below hgr⟩
      have HXC : Aside0 (Rb w rb B r (.slice A r.L.length c) [(w.heap.size, .cells (aT k m) 27)] xc) := ⟨by rw [← hxc]; exact HX1.out.sub (fun p hp => by simp only [List.mem_cons, List.not_mem_nil, or_false] at hp ⊢; rcases hp with rfl; simp)⟩
      rw [hxc] at HR2
      clear hxc hrun hrow hgr hc2
      rw [if_pos (by rfl)]
      refine app_at _ (.tmp 13) (.tmp 17) 30 rfl (v1 := .slice (some ⟨g9, 0, none⟩) 0 0) (v2 := .slice A r.L.length c) rfl rfl HRUN.out ?_
      refine hK.out _ _ ⟨HX2.out.rl, HX2.out.blk (g := w.heap.size) (C := aT k m) (t := 27) (by simp)⟩ (fun hHeld => ?_)
      clear hK K
      try simp only [Act.put, List.setIfInBounds_toArray, List.set_cons_zero, List.set_cons_succ]
      clear hHeld
      refine readyN (rs := [13]) (by kernel_rfl) (by simp) ?_
      refine eachN.cons rfl (fun K hK => ?_) eachN.nil
      go_simp
      have HX3 := Aside0.mk (HX2.out.alloc (.cells (aMs (newMs r k m)) 40))
      have HM3 : Aside0 ((x2.alloc (.cells (aMs (newMs r k m)) 40)).heap[x2.heap.size]? = some (.cells (aMs (newMs r k m)) 40 (0, 0))) := ⟨World.alloc_heap_new _ _⟩
      try change K _ (x2.alloc (.cells (aMs (newMs r k m)) 40))
      have HR3 := Aside0.mk (HR2.out.below (w' := x2.alloc (.cells (aMs (newMs r k m)) 40)) ((Below.refl _ _).alloc (Nat.le_refl _) _))
      have HC3 : Aside0 (Below xc.heap.size xc (x2.alloc (.cells (aMs (newMs r k m)) 40))) := ⟨HC2.out.trans (((Below.refl _ _).alloc (Nat.le_refl _) _).mono HC2.out.size)⟩
      generalize x2.alloc (.cells (aMs (newMs r k m)) 40) = x3 at HX3 HM3 HR3 HC3 ⊢
      generalize x2.heap.size = gm at HX3 HM3 ⊢
      refine hK.out _ _ ⟨HX3.out.rl, HX3.out.blk (g := w.heap.size) (C := aT k m) (t := 27) (by simp)⟩ (fun hHeld => ?_)
      clear hK K
      try simp only [Act.put, List.setIfInBounds_toArray, List.set_cons_zero, List.set_cons_succ]
      clear hHeld
      refine readyN (rs := [14]) (by kernel_rfl) (by simp) ?_
      refine eachN.cons rfl (fun K hK => ?_) eachN.nil
      obtain ⟨v3, x4, hrun, hrow, hon⟩ := run_append_row (P := Try.prog) x3 30 30 40 i0 _ 3 24 Try.underlying30 HI0.out.1 HI0.out.2.1 HI0.out.2.2.1 HI0.out.2.2.2 rfl (by decide) xc.heap.size _ r.L.length (fM r.L) HR3.out HC3.out.size ⟨gm, 0, none⟩ 1 1 (aMs (newMs r k m)).toList rfl (fun j u hj => by rw [Addr.add_lit, Nat.zero_add]; simp only [World.cell?, HM3.out]; rw [← Array.getElem?_toList]; exact hj) (by have h9 := fM_oneC [newMs r k m]; rwa [fM_one] at h9) (by have := HROOM.out; unfold maxLen; omega) (by have := HROOM.out; omega)
      rw [← fM_one, ← fM_append] at hrow
      have hlen : r.L.length + 1 = (r.L ++ [newMs r k m]).length := by rw [List.length_append]; rfl
      rw [hlen] at hrow
      have hl64 : (r.L ++ [newMs r k m]).length ≤ 100000 := by rw [← hlen]; exact HROOM.out
      clear hlen
      generalize hLL : r.L ++ [newMs r k m] = LL at hrow hl64
      have HLL := Aside0.mk hLL
      have HL64 := Aside0.mk hl64
      clear hLL hl64
      obtain ⟨A3, c3', rfl, hc3⟩ := hrow.form
      have HRUN2 := Aside0.mk hrun
      have HROW2 := Aside0.mk hrow
      have HX4 := Aside0.mk (HXC.out.below (HC3.out.trans (hon.below HC3.out.size)))
      clear hrun hrow hon hc3
      rw [if_pos (by rfl)]
      refine app_at _ (.tmp 18) (.tmp 25) 30 rfl (v1 := .slice A2 r.L.length c2) (v2 := .slice (some ⟨gm, 0, none⟩) 1 1) rfl rfl HRUN2.out ?_
      refine hK.out _ _ ⟨HX4.out.rl, HX4.out.blk (g := w.heap.size) (C := aT k m) (t := 27) (by simp)⟩ (fun hHeld => ?_)
      clear hK K
      try simp only [Act.put, List.setIfInBounds_toArray, List.set_cons_zero, List.set_cons_succ]
      refine takeF (i := 15) (v := _) 27 rfl rfl (by kernel_rfl) (by kernel_rfl) (by kernel_rfl) (fun _ _ _ h => h) (Or.inl ⟨by rfl, fun w' _ => by first | (go_simp; done) | (go_simp; with_reducible rfl) | (go_simp; rfl)⟩) ?_
      try simp only [Act.put, List.setIfInBounds_toArray, List.set_cons_zero, List.set_cons_succ]
      refine takeF (i := 16) (v := _) 28 rfl rfl (by kernel_rfl) (by kernel_rfl) (by kernel_rfl) (fun _ _ _ h => h) (Or.inl ⟨by rfl, fun w' _ => by first | (go_simp; done) | (go_simp; with_reducible rfl) | (go_simp; rfl)⟩) ?_
      try simp only [Act.put, List.setIfInBounds_toArray, List.set_cons_zero, List.set_cons_succ]
      clear hHeld
      have d4 := HX4.out.rl.cells.1
      have g4f := HX4.out.rl.frozen 0
      refine readyN (rs := [17]) (by kernel_rfl) (by simp) ?_
      refine eachN.last rfl (by kernel_rfl) (fun K hK => ?_)
      go_simp
      have HB6 : Aside0 (Rb w rb B { r with L := LL } (.slice A3 LL.length c3') [(w.heap.size, .cells (aT k m) 27)] (x4.setCell ⟨rb, 0, none⟩ (.slice A3 LL.length c3'))) := ⟨HX4.out.setL HROW2.out HXC.out.rl.sz HL64.out (fun p hp => ⟨hp, (Array.getElem?_eq_some_iff.1 (HXC.out.obj p hp).1).1⟩)⟩
      clear d4 g4f
      try change K _ (x4.setCell ⟨rb, 0, none⟩ (.slice A3 LL.length c3'))
      generalize x4.setCell ⟨rb, 0, none⟩ (.slice A3 LL.length c3') = w6 at HB6 ⊢
      refine hK.out _ _ ?_
      clear hK K
      try simp only [Act.put, List.setIfInBounds_toArray, List.set_cons_zero, List.set_cons_succ]
      refine doneN (by kernel_rfl) ?_ _
      have d2 := HB6.out.rl.cells.2
      go_wp2
      go_ret
      exact ⟨by rw [HPR.out.1]; rfl, by rw [HPR.out.2]; rw [← HLL.out] at HB6; exact HB6.out.done⟩
    · go_simp
      have HX2 := Aside0.mk (HX1.out.alloc (.cells (aMs (newMs r k m)) 40))
      have HM2 : Aside0 ((x1.alloc (.cells (aMs (newMs r k m)) 40)).heap[x1.heap.size]? = some (.cells (aMs (newMs r k m)) 40 (0, 0))) := ⟨World.alloc_heap_new _ _⟩
      try change K _ (x1.alloc (.cells (aMs (newMs r k m)) 40))
      generalize x1.alloc (.cells (aMs (newMs r k m)) 40) = x2 at HX2 HM2 ⊢
      generalize x1.heap.size = gm at HX2 HM2 ⊢
      refine hK.out _ _ ⟨HX2.out.rl, HX2.out.blk (g := w.heap.size) (C := aT k m) (t := 27) (by simp)⟩ (fun hHeld => ?_)
      clear hK K
      try simp only [Act.put, List.setIfInBounds_toArray, List.set_cons_zero, List.set_cons_succ]
      clear hHeld
      refine readyN (rs := [6]) (by kernel_rfl) (by simp) ?_
      refine eachN.cons rfl (fun K hK => ?_) eachN.nil
      obtain ⟨v2, x3, hrun, hrow, hgr⟩ := run_copy (P := Try.prog) x2 30 30 40 i0 _ 3 24 Try.underlying30 HI0.out.1 HI0.out.2.1 HI0.out.2.2.1 HI0.out.2.2.2 rfl (by decide) ⟨g9, 0, none⟩ A r.L.length c (fM r.L) (fM_len _) HX2.out.rl.row.src (by have := HROOM.out; unfold maxLen; omega) (by have := HROOM.out; omega)
      obtain ⟨A2, c2, rfl, hc2⟩ := hrow.form
      have HRUN := Aside0.mk hrun
      have HR3 := Aside0.mk hrow
      have HX3 := Aside0.mk (HX2.out.below (grown_below hgr))
      have HM3 : Aside0 (x3.heap[gm]? = some (.cells (aMs (newMs r k m)) 40 (0, 0))) := ⟨obj_below (grown_below hgr) HM2.out⟩
      obtain ⟨xc, hxc⟩ : ∃ xc, x2 = xc := ⟨_, rfl⟩
      have HC3 : Aside0 (Below xc.heap.size xc x3) := ⟨by rw [← hxc]; exact grown_below hgr⟩
      have HXC : Aside0 (Rb w rb B r (.slice A r.L.length c) [(w.heap.size, .cells (aT k m) 27)] xc) := ⟨by rw [← hxc]; exact HX2.out.sub (fun p hp => by simp only [List.mem_cons, List.not_mem_nil, or_false] at hp ⊢; rcases hp with rfl; simp)⟩
      rw [hxc] at HR3
      clear hxc hrun hrow hgr hc2
      rw [if_pos (by rfl)]
      refine app_at _ (.tmp 13) (.tmp 17) 30 rfl (v1 := .slice (some ⟨g9, 0, none⟩) 0 0) (v2 := .slice A r.L.length c) rfl rfl HRUN.out ?_
      refine hK.out _ _ ⟨HX3.out.rl, HX3.out.blk (g := w.heap.size) (C := aT k m) (t := 27) (by simp)⟩ (fun hHeld => ?_)
      clear hK K
      try simp only [Act.put, List.setIfInBounds_toArray, List.set_cons_zero, List.set_cons_succ]
      clear hHeld
      refine readyN (rs := [14]) (by kernel_rfl) (by simp) ?_
      refine eachN.cons rfl (fun K hK => ?_) eachN.nil
      obtain ⟨v3, x4, hrun, hrow, hon⟩ := run_append_row (P := Try.prog) x3 30 30 40 i0 _ 3 24 Try.underlying30 HI0.out.1 HI0.out.2.1 HI0.out.2.2.1 HI0.out.2.2.2 rfl (by decide) xc.heap.size _ r.L.length (fM r.L) HR3.out HC3.out.size ⟨gm, 0, none⟩ 1 1 (aMs (newMs r k m)).toList rfl (fun j u hj => by rw [Addr.add_lit, Nat.zero_add]; simp only [World.cell?, HM3.out]; rw [← Array.getElem?_toList]; exact hj) (by have h9 := fM_oneC [newMs r k m]; rwa [fM_one] at h9) (by have := HROOM.out; unfold maxLen; omega) (by have := HROOM.out; omega)
      rw [← fM_one, ← fM_append] at hrow
      have hlen : r.L.length + 1 = (r.L ++ [newMs r k m]).length := by rw [List.length_append]; rfl
      rw [hlen] at hrow
      have hl64 : (r.L ++ [newMs r k m]).length ≤ 100000 := by rw [← hlen]; exact HROOM.out
      clear hlen
      generalize hLL : r.L ++ [newMs r k m] = LL at hrow hl64
      have HLL := Aside0.mk hLL
      have HL64 := Aside0.mk hl64
      clear hLL hl64
      obtain ⟨A3, c3', rfl, hc3⟩ := hrow.form
      have HRUN2 := Aside0.mk hrun
      have HROW2 := Aside0.mk hrow
      have HX4 := Aside0.mk (HXC.out.below (HC3.out.trans (hon.below HC3.out.size)))
      clear hrun hrow hon hc3
      rw [if_pos (by rfl)]
      refine app_at _ (.tmp 18) (.tmp 25) 30 rfl (v1 := .slice A2 r.L.length c2) (v2 := .slice (some ⟨gm, 0, none⟩) 1 1) rfl rfl HRUN2.out ?_
      refine hK.out _ _ ⟨HX4.out.rl, HX4.out.blk (g := w.heap.size) (C := aT k m) (t := 27) (by simp)⟩ (fun hHeld => ?_)
      clear hK K
      try simp only [Act.put, List.setIfInBounds_toArray, List.set_cons_zero, List.set_cons_succ]
      refine takeF (i := 15) (v := _) 27 rfl rfl (by kernel_rfl) (by kernel_rfl) (by kernel_rfl) (fun _ _ _ h => h) (Or.inl ⟨by rfl, fun w' _ => by first | (go_simp; done) | (go_simp; with_reducible rfl) | (go_simp; rfl)⟩) ?_
      try simp only [Act.put, List.setIfInBounds_toArray, List.set_cons_zero, List.set_cons_succ]
      refine takeF (i := 16) (v := _) 28 rfl rfl (by kernel_rfl) (by kernel_rfl) (by kernel_rfl) (fun _ _ _ h => h) (Or.inl ⟨by rfl, fun w' _ => by first | (go_simp; done) | (go_simp; with_reducible rfl) | (go_simp; rfl)⟩) ?_
      try simp only [Act.put, List.setIfInBounds_toArray, List.set_cons_zero, List.set_cons_succ]
      clear hHeld
      have d4 := HX4.out.rl.cells.1
      have g4f := HX4.out.rl.frozen 0
      refine readyN (rs := [17]) (by kernel_rfl) (by simp) ?_
      refine eachN.last rfl (by kernel_rfl) (fun K hK => ?_)
      go_simp
      have HB6 : Aside0 (Rb w rb B { r with L := LL } (.slice A3 LL.length c3') [(w.heap.size, .cells (aT k m) 27)] (x4.setCell ⟨rb, 0, none⟩ (.slice A3 LL.length c3'))) := ⟨HX4.out.setL HROW2.out HXC.out.rl.sz HL64.out (fun p hp => ⟨hp, (Array.getElem?_eq_some_iff.1 (HXC.out.obj p hp).1).1⟩)⟩
      clear d4 g4f
      try change K _ (x4.setCell ⟨rb, 0, none⟩ (.slice A3 LL.length c3'))
      generalize x4.setCell ⟨rb, 0, none⟩ (.slice A3 LL.length c3') = w6 at HB6 ⊢
      refine hK.out _ _ ?_
      clear hK K
      try simp only [Act.put, List.setIfInBounds_toArray, List.set_cons_zero, List.set_cons_succ]
      refine doneN (by kernel_rfl) ?_ _
      have d2 := HB6.out.rl.cells.2
      go_wp2
      go_ret
      exact ⟨by rw [HPR.out.1]; rfl, by rw [HPR.out.2]; rw [← HLL.out] at HB6; exact HB6.out.done⟩
  · go_simp
    have HX1 := Aside0.mk (HX0.out.alloc (.cells (aMs (newMs r k m)) 40))
    have HM1 : Aside0 ((x0.alloc (.cells (aMs (newMs r k m)) 40)).heap[x0.heap.size]? = some (.cells (aMs (newMs r k m)) 40 (0, 0))) := ⟨World.alloc_heap_new _ _⟩
    try change K _ (x0.alloc (.cells (aMs (newMs r k m)) 40))
    generalize x0.alloc (.cells (aMs (newMs r k m)) 40) = x1 at HX1 HM1 ⊢
    generalize x0.heap.size = gm at HX1 HM1 ⊢
    refine hK.out _ _ ⟨HX1.out.rl, HX1.out.blk (g := w.heap.size) (C := aT k m) (t := 27) (by simp)⟩ (fun hHeld => ?_)
    clear hK K
    try simp only [Act.put, List.setIfInBounds_toArray, List.set_cons_zero, List.set_cons_succ]
    clear hHeld
    refine readyN (rs := [1]) (by kernel_rfl) (by simp) ?_
    refine eachN.cons rfl (fun K hK => ?_) eachN.nil
    go_simp
    have HX2 := Aside0.mk (HX1.out.alloc (.cells #[] 40))
    try change K _ (x1.alloc (.cells #[] 40))
    have HM2 : Aside0 ((x1.alloc (.cells #[] 40)).heap[gm]? = some (.cells (aMs (newMs r k m)) 40 (0, 0))) := ⟨obj_below ((Below.refl _ _).alloc (Nat.le_refl _) _) HM1.out⟩
    generalize x1.alloc (.cells #[] 40) = x2 at HX2 HM2 ⊢
    generalize x1.heap.size = g9 at HX2 ⊢
    refine hK.out _ _ ⟨HX2.out.rl, HX2.out.blk (g := w.heap.size) (C := aT k m) (t := 27) (by simp)⟩ (fun hHeld => ?_)
    clear hK K
    try simp only [Act.put, List.setIfInBounds_toArray, List.set_cons_zero, List.set_cons_succ]
    clear hHeld
    refine readyN (rs := [6]) (by kernel_rfl) (by simp) ?_
    refine eachN.cons rfl (fun K hK => ?_) eachN.nil
    obtain ⟨v2, x3, hrun, hrow, hgr⟩ := run_copy (P := Try.prog) x2 30 30 40 i0 _ 3 24 Try.underlying30 HI0.out.1 HI0.out.2.1 HI0.out.2.2.1 HI0.out.2.2.2 rfl (by decide) ⟨g9, 0, none⟩ A r.L.length c (fM r.L) (fM_len _) HX2.out.rl.row.src (by have := HROOM.out; unfold maxLen; omega) (by have := HROOM.out; omega)
    obtain ⟨A2, c2, rfl, hc2⟩ := hrow.form
    have HRUN := Aside0.mk hrun
    have HR3 := Aside0.mk hrow
    have HX3 := Aside0.mk (HX2.out.below (grown_below hgr))
    have HM3 : Aside0 (x3.heap[gm]? = some (.cells (aMs (newMs r k m)) 40 (0, 0))) := ⟨obj_below (grown_below hgr) HM2.out⟩
    obtain ⟨xc, hxc⟩ : ∃ xc, x2 = xc := ⟨_, rfl⟩
    have HC3 : Aside0 (Below xc.heap.size xc x3) := ⟨by rw [← hxc]; exact grown_below hgr⟩
    have HXC : Aside0 (Rb w rb B r (.slice A r.L.length c) [(w.heap.size, .cells (aT k m) 27)] xc) := ⟨by rw [← hxc]; exact HX2.out.sub (fun p hp => by simp only [List.mem_cons, List.not_mem_nil, or_false] at hp ⊢; rcases hp with rfl; simp)⟩
    rw [hxc] at HR3
    clear hxc hrun hrow hgr hc2
    rw [if_pos (by rfl)]
    refine app_at _ (.tmp 13) (.tmp 17) 30 rfl (v1 := .slice (some ⟨g9, 0, none⟩) 0 0) (v2 := .slice A r.L.length c) rfl rfl HRUN.out ?_
    refine hK.out _ _ ⟨HX3.out.rl, HX3.out.blk (g := w.heap.size) (C := aT k m) (t := 27) (by simp)⟩ (fun hHeld => ?_)
    clear hK K
    try simp only [Act.put, List.setIfInBounds_toArray, List.set_cons_zero, List.set_cons_succ]
    clear hHeld
    refine readyN (rs := [14]) (by kernel_rfl) (by simp) ?_
    refine eachN.cons rfl (fun K hK => ?_) eachN.nil
    obtain ⟨v3, x4, hrun, hrow, hon⟩ := run_append_row (P := Try.prog) x3 30 30 40 i0 _ 3 24 Try.underlying30 HI0.out.1 HI0.out.2.1 HI0.out.2.2.1 HI0.out.2.2.2 rfl (by decide) xc.heap.size _ r.L.length (fM r.L) HR3.out HC3.out.size ⟨gm, 0, none⟩ 1 1 (aMs (newMs r k m)).toList rfl (fun j u hj => by rw [Addr.add_lit, Nat.zero_add]; simp only [World.cell?, HM3.out]; rw [← Array.getElem?_toList]; exact hj) (by have h9 := fM_oneC [newMs r k m]; rwa [fM_one] at h9) (by have := HROOM.out; unfold maxLen; omega) (by have := HROOM.out; omega)
    rw [← fM_one, ← fM_append] at hrow
    have hlen : r.L.length + 1 = (r.L ++ [newMs r k m]).length := by rw [List.length_append]; rfl
    rw [hlen] at hrow
    have hl64 : (r.L ++ [newMs r k m]).length ≤ 100000 := by rw [← hlen]; exact HROOM.out
    clear hlen
    generalize hLL : r.L ++ [newMs r k m] = LL at hrow hl64
    have HLL := Aside0.mk hLL
    have HL64 := Aside0.mk hl64
    clear hLL hl64
    obtain ⟨A3, c3', rfl, hc3⟩ := hrow.form
    have HRUN2 := Aside0.mk hrun
    have HROW2 := Aside0.mk hrow
    have HX4 := Aside0.mk (HXC.out.below (HC3.out.trans (hon.below HC3.out.size)))
    clear hrun hrow hon hc3
    rw [if_pos (by rfl)]
    refine app_at _ (.tmp 18) (.tmp 25) 30 rfl (v1 := .slice A2 r.L.length c2) (v2 := .slice (some ⟨gm, 0, none⟩) 1 1) rfl rfl HRUN2.out ?_
    refine hK.out _ _ ⟨HX4.out.rl, HX4.out.blk (g := w.heap.size) (C := aT k m) (t := 27) (by simp)⟩ (fun hHeld => ?_)
    clear hK K
    try simp only [Act.put, List.setIfInBounds_toArray, List.set_cons_zero, List.set_cons_succ]
    refine takeF (i := 15) (v := _) 27 rfl rfl (by kernel_rfl) (by kernel_rfl) (by kernel_rfl) (fun _ _ _ h => h) (Or.inl ⟨by rfl, fun w' _ => by first | (go_simp; done) | (go_simp; with_reducible rfl) | (go_simp; rfl)⟩) ?_
    try simp only [Act.put, List.setIfInBounds_toArray, List.set_cons_zero, List.set_cons_succ]
    refine takeF (i := 16) (v := _) 28 rfl rfl (by kernel_rfl) (by kernel_rfl) (by kernel_rfl) (fun _ _ _ h => h) (Or.inl ⟨by rfl, fun w' _ => by first | (go_simp; done) | (go_simp; with_reducible rfl) | (go_simp; rfl)⟩) ?_
    try simp only [Act.put, List.setIfInBounds_toArray, List.set_cons_zero, List.set_cons_succ]
    clear hHeld
    have d4 := HX4.out.rl.cells.1
    have g4f := HX4.out.rl.frozen 0
    refine readyN (rs := [17]) (by kernel_rfl) (by simp) ?_
    refine eachN.last rfl (by kernel_rfl) (fun K hK => ?_)
    go_simp
    have HB6 : Aside0 (Rb w rb B { r with L := LL } (.slice A3 LL.length c3') [(w.heap.size, .cells (aT k m) 27)] (x4.setCell ⟨rb, 0, none⟩ (.slice A3 LL.length c3'))) := ⟨HX4.out.setL HROW2.out HXC.out.rl.sz HL64.out (fun p hp => ⟨hp, (Array.getElem?_eq_some_iff.1 (HXC.out.obj p hp).1).1⟩)⟩
    clear d4 g4f
    try change K _ (x4.setCell ⟨rb, 0, none⟩ (.slice A3 LL.length c3'))
    generalize x4.setCell ⟨rb, 0, none⟩ (.slice A3 LL.length c3') = w6 at HB6 ⊢
    refine hK.out _ _ ?_
    clear hK K
    try simp only [Act.put, List.setIfInBounds_toArray, List.set_cons_zero, List.set_cons_succ]
    refine doneN (by kernel_rfl) ?_ _
    have d2 := HB6.out.rl.cells.2
    go_wp2
    go_ret
    exact ⟨by rw [HPR.out.1]; rfl, by rw [HPR.out.2]; rw [← HLL.out] at HB6; exact HB6.out.done⟩
set_option maxRecDepth 100000 in
set_option maxHeartbeats 4000000 in
theorem RDrop_calls {w : World} {rb B : Nat} {r : RS} {v : Value} (h : RL w rb B r v) (id : Int) : Calls Try.prog 29 #[.pointer (some ⟨rb, 0, none⟩), .int .i64 id] w fun e w' =>
    (∃ (i : Nat) (x : En), r.L[i]? = some x ∧ atM r.L id = some x ∧ e = .returned (.int .i64 0) ∧ Rn rb B { r with L := r.L.take i ++ r.L.drop (i + 1) } w w') ∨ (atM r.L id = none ∧ e = .returned (.int .i64 90) ∧ Rn rb B r w w') := by
  obtain ⟨A, c, rfl, hc⟩ := h.form
  have HCC := Aside0.mk hc
  have HLEN := Aside0.mk h.len
  have HB3 := Aside0.mk (Rb.start h)
  obtain ⟨i0, hi0, hz0, hz1, hz2⟩ := info_parts info40
  have HI0 := Aside0.mk (And.intro hi0 (And.intro hz0 (And.intro hz1 hz2)))
  clear hi0 hz0 hz1 hz2
  clear h hc
  go_enter Try.func29, Try.ntmps29
  go_upto_region 2 with (go_at_call 43; refine (at_calls HB3.out.rl id).mono ?_; rintro e w3 ⟨res, rfl, hf, hw2⟩; replace hw2 := hw2.symm; subst hw2; have HF := Aside0.mk hf.atM; clear hf)
  rcases HF.out with ⟨i, x, rfl, hm, ha⟩ | ⟨rfl, ha⟩
  · have b1 : (0 : Int) ≤ (i : Int) := Int.natCast_nonneg i
    have b2 : (i : Int) < (r.L.length : Int) := Int.ofNat_lt.2 (List.getElem?_eq_some_iff.1 hm).1
    have b3 : decide ((i : Int) < 0) = false := decide_eq_false (by omega)
    have ht : ((i : Int)).toNat = i := Int.toNat_natCast i
    have HE := Aside0.mk (And.intro hm ha)
    have HIL : Aside0 (i < r.L.length) := ⟨(List.getElem?_eq_some_iff.1 hm).1⟩
    obtain ⟨gT, oT, rfl, -⟩ := HB3.out.rl.msg hm
    clear hm ha
    have n1 : i ≤ c := by have := HIL.out; have := HCC.out; omega
    have n2 : (i : Int) ≤ (c : Int) := by omega
    have n3 : i + 1 ≤ c := by have := HIL.out; have := HCC.out; omega
    have n4 : (i : Int) + 1 ≤ (c : Int) := by omega
    have n5 : r.L.length ≤ c := HCC.out
    have n6 : (r.L.length : Int) ≤ (c : Int) := by omega
    have n7 : i + 1 ≤ r.L.length := HIL.out
    have n8 : i ≤ r.L.length := by omega
    have n9 : (i : Int) ≤ (r.L.length : Int) := by omega
    have hwi : wrap64 ((i : Int) + 1) = (i : Int) + 1 := w64_nat (Nat.lt_of_lt_of_le HIL.out (Nat.le_trans HLEN.out (by decide)))
    have hwi2 : IntKind.i64.wrap ((i : Int) + 1) = (i : Int) + 1 := by rw [← hwi]; exact (IntKind.wrap_i64 _).trans (by unfold wrap64; omega)
    have ht1 : ((i : Int) + 1).toNat = i + 1 := by omega
    have p4 : (0 : Int) ≤ (i : Int) + 1 := by omega
    have p5 : (i : Int) + 1 ≤ (r.L.length : Int) := by omega
    go_upto_region 4 with fail
    refine startN (S := fun w' => RL w' rb B r (.slice (some ⟨gT, oT, none⟩) r.L.length c)) (N := [5, 12]) (by kernel_rfl) ?_
    have hHeld : (fun w' => RL w' rb B r (.slice (some ⟨gT, oT, none⟩) r.L.length c)) w.drew := (HB3.out.below (Below.refl _ _).drew).rl
    refine takeF (i := 0) (v := _) 11 rfl rfl (by kernel_rfl) (by kernel_rfl) (by kernel_rfl) (fun _ _ _ h => h) (Or.inl ⟨by rfl, fun w' _ => by first | (go_simp; done) | (go_simp; with_reducible rfl) | (go_simp; rfl)⟩) ?_
    try simp only [Act.put, List.setIfInBounds_toArray, List.set_cons_zero, List.set_cons_succ]
    refine takeF (i := 2) (v := _) 13 rfl rfl (by kernel_rfl) (by kernel_rfl) (by kernel_rfl) (fun _ _ _ h => h) (Or.inl ⟨by rfl, fun w' _ => by first | (go_simp; done) | (go_simp; with_reducible rfl) | (go_simp; rfl)⟩) ?_
    try simp only [Act.put, List.setIfInBounds_toArray, List.set_cons_zero, List.set_cons_succ]
    refine takeF (i := 3) (v := _) 14 rfl rfl (by kernel_rfl) (by kernel_rfl) (by kernel_rfl) (fun _ _ _ h => h) (Or.inl ⟨by rfl, fun w' _ => by first | (go_simp; done) | (go_simp; with_reducible rfl) | (go_simp; rfl)⟩) ?_
    try simp only [Act.put, List.setIfInBounds_toArray, List.set_cons_zero, List.set_cons_succ]
    refine takeF (i := 4) (v := _) 15 rfl rfl (by kernel_rfl) (by kernel_rfl) (by kernel_rfl) (fun _ _ _ h => h) (Or.inl ⟨by rfl, fun w' _ => by first | (go_simp; done) | (go_simp; with_reducible rfl) | (go_simp; rfl)⟩) ?_
    try simp only [Act.put, List.setIfInBounds_toArray, List.set_cons_zero, List.set_cons_succ]
    refine takeN (i := 5) (v := _) 16 rfl rfl (by kernel_rfl) (by kernel_rfl) (by kernel_rfl) (fun _ _ _ h => h) (by kernel_rfl) (Or.inl ⟨by rfl, fun w' hW => by have hq0 := hW.cells.1; first | (go_simp; done) | (go_simp; with_reducible rfl) | (go_simp; rfl)⟩) hHeld ?_
    try simp only [Act.put, List.setIfInBounds_toArray, List.set_cons_zero, List.set_cons_succ]
    refine takeF (i := 6) (v := _) 17 rfl rfl (by kernel_rfl) (by kernel_rfl) (by kernel_rfl) (fun _ _ _ h => h) (Or.inl ⟨by rfl, fun w' _ => by first | (go_simp; done) | (go_simp; with_reducible rfl) | (go_simp; rfl)⟩) ?_
    try simp only [Act.put, List.setIfInBounds_toArray, List.set_cons_zero, List.set_cons_succ]
    refine takeF (i := 7) (v := _) 18 rfl rfl (by kernel_rfl) (by kernel_rfl) (by kernel_rfl) (fun _ _ _ h => h) (Or.inl ⟨by rfl, fun w' _ => by first | (go_simp; done) | (go_simp; with_reducible rfl) | (go_simp; rfl)⟩) ?_
    try simp only [Act.put, List.setIfInBounds_toArray, List.set_cons_zero, List.set_cons_succ]
    refine takeF (i := 9) (v := _) 20 rfl rfl (by kernel_rfl) (by kernel_rfl) (by kernel_rfl) (fun _ _ _ h => h) (Or.inl ⟨by rfl, fun w' _ => by first | (go_simp; done) | (go_simp; with_reducible rfl) | (go_simp; rfl)⟩) ?_
    try simp only [Act.put, List.setIfInBounds_toArray, List.set_cons_zero, List.set_cons_succ]
    refine takeF (i := 10) (v := _) 21 rfl rfl (by kernel_rfl) (by kernel_rfl) (by kernel_rfl) (fun _ _ _ h => h) (Or.inl ⟨by rfl, fun w' _ => by first | (go_simp; done) | (go_simp; with_reducible rfl) | (go_simp; rfl)⟩) ?_
    try simp only [Act.put, List.setIfInBounds_toArray, List.set_cons_zero, List.set_cons_succ]
    refine takeF (i := 11) (v := _) 22 rfl rfl (by kernel_rfl) (by kernel_rfl) (by kernel_rfl) (fun _ _ _ h => h) (Or.inl ⟨by rfl, fun w' _ => by first | (go_simp; done) | (go_simp; with_reducible rfl) | (go_simp; rfl)⟩) ?_
    try simp only [Act.put, List.setIfInBounds_toArray, List.set_cons_zero, List.set_cons_succ]
    refine takeN (i := 12) (v := _) 23 rfl rfl (by kernel_rfl) (by kernel_rfl) (by kernel_rfl) (fun _ _ _ h => h) (by kernel_rfl) (Or.inl ⟨by rfl, fun w' hW => by have hq0 := hW.cells.1; first | (go_simp; done) | (go_simp; with_reducible rfl) | (go_simp; rfl)⟩) hHeld ?_
    try simp only [Act.put, List.setIfInBounds_toArray, List.set_cons_zero, List.set_cons_succ]
    refine takeF (i := 13) (v := _) 24 rfl rfl (by kernel_rfl) (by kernel_rfl) (by kernel_rfl) (fun _ _ _ h => h) (Or.inl ⟨by rfl, fun w' _ => by first | (go_simp; done) | (go_simp; with_reducible rfl) | (go_simp; rfl)⟩) ?_
    try simp only [Act.put, List.setIfInBounds_toArray, List.set_cons_zero, List.set_cons_succ]
    refine takeF (i := 14) (v := _) 25 rfl rfl (by kernel_rfl) (by kernel_rfl) (by kernel_rfl) (fun _ _ _ h => h) (Or.inl ⟨by rfl, fun w' _ => by first | (go_simp; done) | (go_simp; with_reducible rfl) | (go_simp; rfl)⟩) ?_
    try simp only [Act.put, List.setIfInBounds_toArray, List.set_cons_zero, List.set_cons_succ]
    refine takeF (i := 15) (v := _) 26 rfl rfl (by kernel_rfl) (by kernel_rfl) (by kernel_rfl) (fun _ _ _ h => h) (Or.inl ⟨by rfl, fun w' _ => by first | (go_simp; done) | (go_simp; with_reducible rfl) | (go_simp; rfl)⟩) ?_
    try simp only [Act.put, List.setIfInBounds_toArray, List.set_cons_zero, List.set_cons_succ]
    have HB4 := Aside0.mk (HB3.out.below (Below.refl _ _).drew)
    clear hHeld
    generalize w.drew = w4 at HB4 ⊢
    refine readyN (rs := [1]) (by kernel_rfl) (by simp) ?_
    refine eachN.cons rfl (fun K hK => ?_) eachN.nil
    go_simp
    have HB5 := Aside0.mk (HB4.out.alloc (.cells #[] 40))
    try change K _ (w4.alloc (.cells #[] 40))
    generalize w4.alloc (.cells #[] 40) = w5 at HB5 ⊢
    generalize w4.heap.size = g9 at HB5 ⊢
    refine hK.out _ _ HB5.out.rl (fun hHeld => ?_)
    clear hK K
    try simp only [Act.put, List.setIfInBounds_toArray, List.set_cons_zero, List.set_cons_succ]
    clear hHeld HB4
    obtain ⟨v2, w6, hrun, hrow, hgr⟩ := run_copy (P := Try.prog) w5 30 30 40 i0 _ 3 24 Try.underlying30 HI0.out.1 HI0.out.2.1 HI0.out.2.2.1 HI0.out.2.2.2 rfl (by decide) ⟨g9, 0, none⟩ (some ⟨gT, oT, none⟩) i c (fM (r.L.take i)) (by rw [fM_len, List.length_take, Nat.min_eq_left (Nat.le_of_lt HIL.out)]) (src_take HB5.out.rl.row.src i) (by have := HIL.out; have := HLEN.out; unfold maxLen; omega) (by have := HIL.out; have := HLEN.out; omega)
    obtain ⟨A2, c2, rfl, hc2⟩ := hrow.form
    have HRUN := Aside0.mk hrun
    have HROW := Aside0.mk hrow
    have HB6 := Aside0.mk (HB5.out.below (grown_below hgr))
    have HGR := Aside0.mk (grown_below hgr)
    clear hrun hrow hgr hc2
    refine readyN (rs := [8]) (by kernel_rfl) (by simp) ?_
    refine eachN.cons rfl (fun K hK => ?_) eachN.nil
    rw [if_pos (by rfl)]
    refine app_at _ (.tmp 12) (.tmp 18) 30 rfl (v1 := .slice (some ⟨g9, 0, none⟩) 0 0) (v2 := .slice (some ⟨gT, oT, none⟩) i c) rfl rfl HRUN.out ?_
    refine hK.out _ _ HB6.out.rl (fun hHeld => ?_)
    clear hK K
    try simp only [Act.put, List.setIfInBounds_toArray, List.set_cons_zero, List.set_cons_succ]
    clear hHeld
    obtain ⟨v3, w7, hrun, hrow, hon⟩ := run_append_row (P := Try.prog) w6 30 30 40 i0 _ 3 24 Try.underlying30 HI0.out.1 HI0.out.2.1 HI0.out.2.2.1 HI0.out.2.2.2 rfl (by decide) w5.heap.size _ i (fM (r.L.take i)) HROW.out HGR.out.size (if c = i + 1 then ⟨gT, oT, none⟩ else ⟨gT, oT + (i + 1) * 3, none⟩) (r.L.length - (i + 1)) (c - (i + 1)) (fM (r.L.drop (i + 1))) (by rw [fM_len, List.length_drop]) (src_drop HB6.out.rl.row.src ⟨HIL.out, HCC.out⟩) (fM_oneC _) (by have := HIL.out; have := HLEN.out; unfold maxLen; omega) (by have := HIL.out; have := HLEN.out; omega)
    rw [← ite_some'] at hrun
    have hlen : i + (r.L.length - (i + 1)) = (r.L.take i ++ r.L.drop (i + 1)).length := by have := HIL.out; rw [List.length_append, List.length_take, List.length_drop, Nat.min_eq_left (Nat.le_of_lt this)]
    rw [hlen, ← fM_append] at hrow
    have hl64 : (r.L.take i ++ r.L.drop (i + 1)).length ≤ 100000 := by rw [List.length_append, List.length_take, List.length_drop]; have := HLEN.out; omega
    clear hlen
    generalize hLL : r.L.take i ++ r.L.drop (i + 1) = LL at hrow hl64
    have HLL := Aside0.mk hLL
    have HL64 := Aside0.mk hl64
    clear hLL hl64
    obtain ⟨A3, c3', rfl, hc3⟩ := hrow.form
    have HRUN2 := Aside0.mk hrun
    have HROW2 := Aside0.mk hrow
    have HB7 := Aside0.mk (HB5.out.below (HGR.out.trans (hon.below HGR.out.size)))
    clear hrun hrow hon hc3
    refine readyN (rs := [16]) (by kernel_rfl) (by simp) ?_
    refine eachN.cons rfl (fun K hK => ?_) eachN.nil
    rw [if_pos (by rfl)]
    refine app_at _ (.tmp 19) (.tmp 26) 30 rfl (v1 := .slice A2 i c2) (v2 := .slice (if c = i + 1 then some ⟨gT, oT, none⟩ else some ⟨gT, oT + (i + 1) * 3, none⟩) (r.L.length - (i + 1)) (c - (i + 1))) rfl rfl HRUN2.out ?_
    refine hK.out _ _ HB7.out.rl (fun hHeld => ?_)
    clear hK K
    try simp only [Act.put, List.setIfInBounds_toArray, List.set_cons_zero, List.set_cons_succ]
    refine takeF (i := 17) (v := _) 28 rfl rfl (by kernel_rfl) (by kernel_rfl) (by kernel_rfl) (fun _ _ _ h => h) (Or.inl ⟨by rfl, fun w' _ => by first | (go_simp; done) | (go_simp; with_reducible rfl) | (go_simp; rfl)⟩) ?_
    try simp only [Act.put, List.setIfInBounds_toArray, List.set_cons_zero, List.set_cons_succ]
    refine takeF (i := 18) (v := _) 29 rfl rfl (by kernel_rfl) (by kernel_rfl) (by kernel_rfl) (fun _ _ _ h => h) (Or.inl ⟨by rfl, fun w' _ => by first | (go_simp; done) | (go_simp; with_reducible rfl) | (go_simp; rfl)⟩) ?_
    try simp only [Act.put, List.setIfInBounds_toArray, List.set_cons_zero, List.set_cons_succ]
    clear hHeld
    have d4 := HB7.out.rl.cells.1
    have g4 := HB7.out.rl.frozen 0
    refine readyN (rs := [19]) (by kernel_rfl) (by simp) ?_
    refine eachN.last rfl (by kernel_rfl) (fun K hK => ?_)
    go_simp
    have HB8 : Aside0 (Rb w rb B { r with L := LL } (.slice A3 LL.length c3') [] (w7.setCell ⟨rb, 0, none⟩ (.slice A3 LL.length c3'))) := ⟨HB7.out.setL HROW2.out HB5.out.rl.sz HL64.out (fun p hp => by cases hp)⟩
    clear d4 g4
    try change K _ (w7.setCell ⟨rb, 0, none⟩ (.slice A3 LL.length c3'))
    generalize w7.setCell ⟨rb, 0, none⟩ (.slice A3 LL.length c3') = w8 at HB8 ⊢
    refine hK.out _ _ ?_
    clear hK K
    try simp only [Act.put, List.setIfInBounds_toArray, List.set_cons_zero, List.set_cons_succ]
    refine doneN (by kernel_rfl) ?_ _
    go_wp2
    all_goals go_ret
    all_goals exact Or.inl ⟨i, x, HE.out.1, HE.out.2, rfl, by rw [← HLL.out] at HB8; exact HB8.out.done⟩
  · have HE := Aside0.mk ha
    clear ha
    go_wp2
    go_ret
    exact Or.inr ⟨HE.out, rfl, HB3.out.done⟩
end Go.Proofs.Ythjppjcmapgkpaa.QAg
