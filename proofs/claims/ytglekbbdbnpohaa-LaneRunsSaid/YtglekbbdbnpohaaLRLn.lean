/- Lane: the document's lane: set, Claim, Lay, Publish. Written by a program of this repo (tools/gen_rlane2.py). -/
import Derived.Test.YtglekbbdbnpohaaKRLn
namespace Go.Proofs.Ytglekbbdbnpohaa.QLn
open Go.RowKit Go.Proofs.YtglekbbdbnpohaaW.PrintWords Go.Proofs.YtglekbbdbnpohaaW.PrintLast Go.Proofs.YtglekbbdbnpohaaW.PrintMore
set_option linter.unusedVariables false
set_option linter.unusedSimpArgs false
theorem info81 : (Try.prog.info? 81).map (fun i => (i.zero, i.size, i.bytes)) = some (some (.agg #[.int .u64 0, .int .i64 0, .bool false, .int .i64 0, .int .u64 0, .int .i64 0, .int .i64 0]), 7, 56) := by kernel_rfl
/-- What a call of the document's lane makes of it. -/
structure Rn (rb B : Nat) (r : RS) (v : Value) (w w' : World) : Prop where
  rl : RL w' rb B r v
  fr : Far rb rb w w'
  off : ∀ k, k < w.heap.size → offRow v k
theorem Rb.call {w0 w w' : World} {rb B : Nat} {r r' : RS} {v v' : Value} {L : List (Nat × Obj)} (h : Rb w0 rb B r v L w) (h' : Rn rb B r' v' w w') : Rb w0 rb B r' v' L w' := by
  refine ⟨h'.rl, h.fr.trans h'.fr, h.hb, fun p hp => ?_⟩
  obtain ⟨h1, h2, h3⟩ := h.obj p hp
  have hlt : p.1 < w.heap.size := (Array.getElem?_eq_some_iff.1 h1).1
  have := h.hb
  exact ⟨(h'.fr.block p.1 hlt (by omega) (by omega)).trans h1, h2, h'.off _ hlt⟩
theorem Rb.done {w0 w : World} {rb B : Nat} {r : RS} {v : Value} {L : List (Nat × Obj)} (h : Rb w0 rb B r v L w) (ho : ∀ k, k < w0.heap.size → offRow v k) : Rn rb B r v w0 w := ⟨h.rl, h.fr, ho⟩
theorem Rb.off0 {w0 w : World} {rb B : Nat} {r : RS} {v : Value} {L : List (Nat × Obj)} (h : Rb w0 rb B r v L w) {B' : Nat} {n : Nat} {xs : List Value} (hr : RowQ w B' 81 7 v n xs) (hB : w0.heap.size ≤ B') : ∀ k, k < w0.heap.size → offRow v k := fun k hk g o n' cap hv hc => by
  subst hv
  have := (hr.at hc).2
  omega
theorem Rb.head {w0 w : World} {rb B : Nat} {r : RS} {v : Value} {L : List (Nat × Obj)} {g : Nat} {C C' : Array Value} {t : TypeId} (h : Rb w0 rb B r v ((g, .cells C t) :: L) w) (hL : ∀ p ∈ L, p.1 ≠ g) (o : Nat) (vs : List Value) (hC : QLn.setAll C o vs = C') : Rb w0 rb B r v ((g, .cells C' t) :: L) (w.setCells g o vs) := by
  refine h.box g C t List.mem_cons_self o vs (fun p hp => ?_)
  rcases List.mem_cons.1 hp with rfl | hp
  · exact Or.inl (by rw [hC])
  · exact Or.inr ⟨List.mem_cons_of_mem _ hp, hL p hp⟩
theorem Rb.fresh {w0 w : World} {rb B : Nat} {r : RS} {v : Value} {L : List (Nat × Obj)} (h : Rb w0 rb B r v L w) : ∀ p ∈ L, p.1 ≠ w.heap.size := fun p hp => by
  have := (Array.getElem?_eq_some_iff.1 (h.obj p hp).1).1
  omega
/-- Whether a message is a ticket's, and stands so. -/
def CP (r : RS) (q ep f : Int) : Ms → Prop := fun m => ep = r.epoch ∧ m.q = q ∧ f ≤ m.is ∧ m.is ≤ f
/-- What the document says of a ticket's readiness. -/
def RdyD (r : RS) (q ep : Int) (b : Bool) : Prop := ∃ res : Int, Fnd r.L (CP r q ep 1) res ∧ ((res = -1 ∧ b = false) ∨ ∃ (i : Nat) (m : Ms), res = (i : Int) ∧ r.L[i]? = some m ∧ ((m.laid = false ∧ b = false) ∨ (m.laid = true ∧ ((b = false ∧ ∃ (k : Nat) (m' : Ms), k < i ∧ r.L[k]? = some m' ∧ m'.is = 1) ∨ (b = true ∧ ∀ (k : Nat) (m' : Ms), k < i → r.L[k]? = some m' → ¬ m'.is = 1)))))
def RdyE (r : RS) (q ep : Int) (w : World) (e : Ending) (w' : World) : Prop := ∃ b : Bool, RdyD r q ep b ∧ e = .returned (.bool b) ∧ Below w.heap.size w w'
set_option maxRecDepth 100000 in
set_option maxHeartbeats 4000000 in
theorem set_calls {w : World} {rb B : Nat} {r : RS} {v : Value} (h : RL w rb B r v) (i : Nat) (m : Ms) (hi : i < r.L.length) : Calls Try.prog 42 #[.pointer (some ⟨rb, 0, none⟩), .int .i64 (i : Int), .agg (aMs m)] w fun e w' =>
    e = .returned (.tuple #[]) ∧ ∃ v', Rn rb B { r with L := r.L.set i m } v' w w' := by
  obtain ⟨A, c, rfl, hc⟩ := h.form
  obtain ⟨i0, hi0, hz0, hz1, hz2⟩ := info_parts info81
  have HI0 := Aside0.mk (And.intro hi0 (And.intro hz0 (And.intro hz1 hz2)))
  clear hi0 hz0 hz1 hz2
  have HLEN := Aside0.mk h.len.1
  have HI := Aside0.mk hi
  have HB0 := Aside0.mk ((Rb.start h).alloc (.cells (aMs m) 81))
  have HS0 : Aside0 (w.heap.size < (w.alloc (.cells (aMs m) 81)).heap.size) := ⟨by show _ < (w.heap.push _).size; rw [Array.size_push]; omega⟩
  clear h hi
  go_enter Try.func42, Try.ntmps42
  go_upto_region 1 with fail
  generalize w.alloc (.cells (aMs m) 81) = w1 at HB0 HS0 ⊢
  have HB1 := Aside0.mk (HB0.out.alloc (.cells #[] 81))
  have HS1 : Aside0 (Below w1.heap.size w1 (w1.alloc (.cells #[] 81))) := ⟨(Below.refl _ _).alloc (Nat.le_refl _) _⟩
  obtain ⟨c0, c1, c2, c3, c4⟩ := HB1.out.rl.cells
  have f4 := HB1.out.rl.frozen 4
  clear c0 c1 c2 c3
  obtain ⟨v2, w3, hrun, hrow, hgr⟩ := run_copy (P := Try.prog) (w1.alloc (.cells #[] 81)) 74 74 81 i0 _ 7 56 Try.underlying74 HI0.out.1 HI0.out.2.1 HI0.out.2.2.1 HI0.out.2.2.2 rfl (by decide) ⟨w1.heap.size, 0, none⟩ A r.L.length c (fM r.L) (fM_len _) HB1.out.rl.row.src (by have := HLEN.out; unfold maxLen; omega) (by have := HLEN.out; omega)
  obtain ⟨A2, cap, rfl, hc2⟩ := hrow.form
  have HRUN := Aside0.mk hrun
  have HROW := Aside0.mk hrow
  have HB3 := Aside0.mk (HB1.out.below (grown_below hgr))
  have HS3 : Aside0 (w1.heap.size ≤ (w1.alloc (.cells #[] 81)).heap.size) := ⟨HS1.out.size⟩
  clear hrun hrow hgr HB1
  have d4 := HB3.out.rl.cells.2.2.2.2
  have g4 := HB3.out.rl.frozen 4
  go_upto_region 2 with (first | ((with_reducible refine gate_builtin (b := .append) rfl ?_); at_builtin; refine app_list _ rfl (.tmp 7) (.tmp 11) 74 rfl rfl rfl HRUN.out ?_))
  clear c4 f4 d4 g4
  have HB4 : Aside0 (Rb w rb B { r with L := r.L } (.slice A2 r.L.length cap) [(w.heap.size, .cells (aMs m) 81)] (w3.setCell ⟨rb, 4, none⟩ (.slice A2 r.L.length cap))) := ⟨HB3.out.setL HROW.out (by have := HB0.out.rl.sz; have := HS3.out; omega) HLEN.out (fun p hp => by
    simp only [List.mem_cons, List.not_mem_nil, or_false] at hp
    subst hp
    exact ⟨by simp, by have := HS0.out; have := HS3.out; simp only; omega⟩)⟩
  have HSB : Aside0 (w.heap.size < (w1.alloc (.cells #[] 81)).heap.size) := ⟨by have := HS0.out; have := HS3.out; omega⟩
  have HB0' : Aside0 (w.heap.size ≤ (w1.alloc (.cells #[] 81)).heap.size) := ⟨by have := HS0.out; have := HS3.out; omega⟩
  generalize (w1.alloc (.cells #[] 81)).heap.size = B' at HROW HS3 HB0' HSB
  obtain ⟨gT, oT, cap0, cur, hv, y1, y2, y3, y4, y5⟩ := HROW.out.lies (Nat.lt_of_le_of_lt (Nat.zero_le _) HI.out)
  injection hv with e1 e2 e3
  subst e1 e3
  have hne : gT ≠ rb := by have := HB4.out.hb; have := HB0'.out; omega
  have HY : Aside0 (B' ≤ gT ∧ (w3.setCell ⟨rb, 4, none⟩ (.slice (some ⟨gT, oT, none⟩) r.L.length cap)).heap[gT]? = some (.cells cur 81 (0, 0)) ∧ r.L.length ≤ cap ∧ oT + cap * 7 ≤ cur.size ∧ ∀ j u, (fM r.L)[j]? = some u → cur[oT + j]? = some u) := ⟨⟨y1, (Below.heap_setCell _ _ _ _ hne).trans y2, y3, y4, y5⟩⟩
  clear y1 y2 y3 y4 y5 hne
  generalize w3.setCell ⟨rb, 4, none⟩ (.slice (some ⟨gT, oT, none⟩) r.L.length cap) = wz at HB4 HY ⊢
  have b1 : (0 : Int) ≤ (i : Int) := Int.natCast_nonneg i
  have b2 : (i : Int) < (r.L.length : Int) := Int.ofNat_lt.2 HI.out
  have ht : ((i : Int)).toNat = i := Int.toNat_natCast i
  refine wp_region_held_drew (S := fun w' => w'.cell? ⟨rb, 4, none⟩ = some (.slice (some ⟨gT, oT, none⟩) r.L.length cap) ∧ w'.heap[w.heap.size]? = some (.cells (aMs m) 81 (0, 0))) (by kernel_rfl) ⟨HB4.out.rl.cells.2.2.2.2, HB4.out.blk (by simp)⟩ (fun hHeld => ?_)
  refine take_at (i := 0) (v := _) 15 rfl rfl (by kernel_rfl) (by kernel_rfl) (by kernel_rfl) (fun _ _ _ h => h) (Or.inl ⟨by rfl, fun w' hW => by have hq0 := hW.1; first | (go_simp; done) | (go_simp; with_reducible rfl) | (go_simp; rfl)⟩) hHeld ?_
  try simp only [Act.put, List.setIfInBounds_toArray, List.set_cons_zero, List.set_cons_succ]
  refine take_at (i := 1) (v := _) 16 rfl rfl (by kernel_rfl) (by kernel_rfl) (by kernel_rfl) (fun _ _ _ h => h) (Or.inl ⟨by rfl, fun w' hW => by have hq0 := hW.1; first | (go_simp; done) | (go_simp; with_reducible rfl) | (go_simp; rfl)⟩) hHeld ?_
  try simp only [Act.put, List.setIfInBounds_toArray, List.set_cons_zero, List.set_cons_succ]
  refine take_at (i := 2) (v := _) 17 rfl rfl (by kernel_rfl) (by kernel_rfl) (by kernel_rfl) (fun _ _ _ h => h) (Or.inl ⟨by rfl, fun w' hW => by have hq0 := hW.1; first | (go_simp; done) | (go_simp; with_reducible rfl) | (go_simp; rfl)⟩) hHeld ?_
  try simp only [Act.put, List.setIfInBounds_toArray, List.set_cons_zero, List.set_cons_succ]
  refine take_at (i := 3) (v := _) 18 rfl rfl (by kernel_rfl) (by kernel_rfl) (by kernel_rfl) (fun _ _ _ h => h) (Or.inl ⟨by rfl, fun w' hW => by have hq0 := hW.1; first | (go_simp; done) | (go_simp; with_reducible rfl) | (go_simp; rfl)⟩) hHeld ?_
  try simp only [Act.put, List.setIfInBounds_toArray, List.set_cons_zero, List.set_cons_succ]
  refine take_at (i := 4) (v := _) 19 rfl rfl (by kernel_rfl) (by kernel_rfl) (by kernel_rfl) (fun _ _ _ h => h) (Or.inl ⟨by rfl, fun w' hW => by have hq0 := hW.1; first | (go_simp; done) | (go_simp; with_reducible rfl) | (go_simp; rfl)⟩) hHeld ?_
  try simp only [Act.put, List.setIfInBounds_toArray, List.set_cons_zero, List.set_cons_succ]
  refine take_at (i := 5) (v := .agg (aMs m)) 20 rfl rfl (by kernel_rfl) (by kernel_rfl) (by kernel_rfl) (fun _ _ _ h => h) (yields_blk (by rfl) 81 (.tmp 5) rfl w.heap.size (aMs m) 81 rfl _ (fun w' hW => hW.2) Try.underlying81 rfl (by kernel_rfl)) hHeld ?_
  try simp only [Act.put, List.setIfInBounds_toArray, List.set_cons_zero, List.set_cons_succ]
  refine take_at (i := 6) (v := _) 21 rfl rfl (by kernel_rfl) (by kernel_rfl) (by kernel_rfl) (fun _ _ _ h => h) (Or.inl ⟨by rfl, fun w' hW => by have hq0 := hW.1; first | (go_simp; done) | (go_simp; with_reducible rfl) | (go_simp; rfl)⟩) hHeld ?_
  try simp only [Act.put, List.setIfInBounds_toArray, List.set_cons_zero, List.set_cons_succ]
  have HB5 := Aside0.mk (HB4.out.below (Below.refl _ _).drew)
  have HY5 : Aside0 (wz.drew.heap[gT]? = some (.cells cur 81 (0, 0))) := ⟨HY.out.2.1⟩
  clear hHeld
  generalize wz.drew = wy at HB5 HY5 ⊢
  refine wpAnyH_ready (rs := [7]) (by kernel_rfl) (by simp) ?_
  refine AllReadyH.cons rfl (fun K hK => ?_) AllReadyH.nil
  rw [if_pos (by rfl)]
  refine store_at rfl 81 (.tmp 21) (.tmp 20) rfl gT (oT + i * 7) (aMs m) rfl rfl (there_of_block HY5.out _ 7 (by have := HY.out.2.2.2.1; have := HY.out.2.2.1; have := HI.out; omega)) (by kernel_rfl) (by simp [aMs, Value.oneCell']) ?_
  have HF : Aside0 (Rn rb B { r with L := r.L.set i m } (.slice (some ⟨gT, oT, none⟩) r.L.length cap) w (wy.setCells gT (oT + i * 7) (aMs m).toList)) := ⟨by
    have hgw : w.heap.size ≤ gT := Nat.le_trans HB0'.out HY.out.1
    have hBg : B ≤ gT := (HB5.out.rl.row.at (Nat.lt_of_lt_of_le (Nat.lt_of_le_of_lt (Nat.zero_le _) HI.out) HY.out.2.2.1)).2
    have hne : rb ≠ gT := by have := HB5.out.hb; omega
    obtain ⟨e1, e2, e3, e4⟩ := os_setCells (g := gT) (aMs m).toList (oT + i * 7) wy
    refine ⟨⟨(far_setCells hne _ _ _).trans HB5.out.rl.blk, ?_, HB5.out.rl.lt, by rw [e4]; exact HB5.out.rl.sz, by simp only [List.length_set]; exact HB5.out.rl.len⟩, HB5.out.fr.setCells' hgw _ _, fun k hk g o n' cap' hv hc => ?_⟩
    · simp only [List.length_set]
      have hg : (r.L.set i m)[i]? = some m := by rw [List.getElem?_set_self HI.out]
      refine RowQ.set (fM_len _) (Nat.lt_of_lt_of_le (Nat.lt_of_le_of_lt (Nat.zero_le _) HI.out) HY.out.2.2.1) hBg HY5.out HY.out.2.2.1 HY.out.2.2.2.1 HY.out.2.2.2.2 i HI.out _ rfl _ (by rw [fM_len, fM_len, List.length_set]) (fun j hj => ?_) (fun j hj => fM_other r.L i _ j hj)
      rw [fM_get _ i m hg j hj, Array.getElem?_toList]
    · injection hv with z1 z2 z3
      injection z1 with z1
      injection z1 with z4 z5
      omega⟩
  have HBX : Aside0 ((wy.setCells gT (oT + i * 7) (aMs m).toList).heap[w.heap.size]? = some (.cells (aMs m) 81 (0, 0))) := ⟨(far_setCells (by have := HB0'.out; have := HY.out.1; have := HS0.out; have := HS3.out; have := HSB.out; omega) _ _ _).trans (HB5.out.blk (by simp))⟩
  clear HB5 HY5
  generalize wy.setCells gT (oT + i * 7) (aMs m).toList = wx at HF HBX ⊢
  refine hK.out _ _ ⟨HF.out.rl.cells.2.2.2.2, HBX.out⟩ (fun hHeld => ?_)
  clear hK K
  try simp only [Act.put, List.setIfInBounds_toArray, List.set_cons_zero, List.set_cons_succ]
  refine wpAnyH_done (by kernel_rfl) ?_ _
  clear hHeld
  go_wp2
  exact bodyPost_end (results_none rfl _ _ _) rfl ⟨rfl, _, HF.out⟩
set_option maxRecDepth 100000 in
set_option maxHeartbeats 4000000 in
theorem RLay_calls {w : World} {rb B : Nat} {r : RS} {v : Value} (h : RL w rb B r v) (q ep n g : Int) : Calls Try.prog 26 #[.pointer (some ⟨rb, 0, none⟩), .agg (aTick q ep), .agg (aSlot n g)] w fun e w' =>
    ∃ res : Int, Fnd r.L (CP r q ep 1) res ∧ ((res = -1 ∧ e = .returned (.int .i64 82) ∧ Rb w rb B r v [] w') ∨ (∃ (i : Nat) (m : Ms) (v' : Value), res = (i : Int) ∧ r.L[i]? = some m ∧ e = .returned (.int .i64 0) ∧ Rb w rb B { r with L := r.L.set i { m with laid := true, n := n, g := g } } v' [] w')) := by
  obtain ⟨A, c, rfl, hc⟩ := h.form
  have HB0 := Aside0.mk ((Rb.start h).alloc2 (.cells (aTick q ep) 34) (.cells (aSlot n g) 36))
  clear h
  go_enter Try.func26, Try.ntmps26
  go_upto_region 1 with fail
  generalize hw1 : (w.alloc (.cells (aTick q ep) 34)).alloc (.cells (aSlot n g) 36) = w1 at HB0 ⊢
  clear hw1
  have z0 : w1.cell? ⟨w.heap.size, 0, none⟩ = some (.int .u64 q) := (HB0.out.ptr (C := aTick q ep) (t := 34) (by simp) 0).1
  have z1 : w1.cell? ⟨w.heap.size, 1, none⟩ = some (.int .u64 ep) := (HB0.out.ptr (C := aTick q ep) (t := 34) (by simp) 1).1
  go_upto_region 2 with (go_at_call 41; refine (find_calls HB0.out.rl q ep 1 1).mono ?_; rintro e w2 ⟨res, rfl, hfnd, hb2⟩; have HFN := Aside0.mk hfnd; have HB2 := Aside0.mk (HB0.out.below hb2); have HWB := Aside0.mk hb2; clear hfnd hb2)
  clear z0 z1 HB0
  rcases HFN.out with ⟨i, hil, rfl, ⟨m, hm, -⟩, -⟩ | ⟨rfl, -⟩
  · have HE := Aside0.mk hm
    clear hm
    have b1 : (0 : Int) ≤ (i : Int) := Int.natCast_nonneg i
    have b2 : (i : Int) < (r.L.length : Int) := Int.ofNat_lt.2 hil
    have b3 : decide ((i : Int) < 0) = false := decide_eq_false (by omega)
    have ht : ((i : Int)).toNat = i := Int.toNat_natCast i
    clear hil
    have c4 := HB2.out.rl.cells.2.2.2.2
    obtain ⟨gT, oT, rfl, m0, m1, m2, m3, m4, m5, m6⟩ := HB2.out.rl.msg HE.out
    go_upto_region 5 with fail
    clear m0 m1 m2 m3 m4 m5 m6 c4
    have HB3 := Aside0.mk (HB2.out.alloc (.cells (aMs m) 81))
    have HFR := Aside0.mk HB2.out.fresh
    try change Code.wp _ _ _ _ (w2.alloc (.cells (aMs m) 81))
    generalize w2.alloc (.cells (aMs m) 81) = w3 at HB3 ⊢
    generalize w2.heap.size = g8 at HB3 HFR ⊢
    have x2 := HB3.out.ptr (g := g8) (C := aMs m) (t := 81) (by simp) 2
    obtain ⟨x2, y2⟩ := x2
    replace x2 : w3.cell? ⟨g8, 2, none⟩ = some (.bool m.laid) := x2
    go_upto_region 6 with fail
    clear x2 y2
    have HB4 : Aside0 (Rb w rb B r (.slice (some ⟨gT, oT, none⟩) r.L.length c) [(g8, .cells (aMs { m with laid := true }) 81), (w.heap.size + 1, .cells (aSlot n g) 36), (w.heap.size, .cells (aTick q ep) 34)] (w3.setCell ⟨g8, 2, none⟩ (.bool true))) := ⟨HB3.out.head HFR.out 2 [.bool true] rfl⟩
    generalize w3.setCell ⟨g8, 2, none⟩ (.bool true) = w4 at HB4 ⊢
    have s0 : w4.cell? ⟨w.heap.size + 1, 0, none⟩ = some (.int .i64 n) := (HB4.out.ptr (C := aSlot n g) (t := 36) (by simp) 0).1
    have s1 : w4.cell? ⟨w.heap.size + 1, 1, none⟩ = some (.int .u64 g) := (HB4.out.ptr (C := aSlot n g) (t := 36) (by simp) 1).1
    go_upto_region 7 with (first | ((with_reducible refine gate_store (t := 36) (p := 23) rfl ?_); refine store_blk rfl 36 (.tmp 23) (.tmp 22) rfl g8 3 (aSlot n g) (aMs { m with laid := true }) 81 rfl rfl (HB4.out.blk (g := g8) (C := aMs { m with laid := true }) (t := 81) (by simp)) (by simp [aMs, aSlot]) (by kernel_rfl) (by simp [aSlot, Value.oneCell']) ?_; intro w5 hw5 _; have HB5 : Aside0 (Rb w rb B r (.slice (some ⟨gT, oT, none⟩) r.L.length c) [(g8, .cells (aMs { m with laid := true, n := n, g := g }) 81), (w.heap.size + 1, .cells (aSlot n g) 36), (w.heap.size, .cells (aTick q ep) 34)] w5) := ⟨by rw [hw5]; exact HB4.out.head HFR.out 3 _ rfl⟩; clear hw5))
    clear s0 s1
    have l0 : w5.cell? ⟨g8, 0, none⟩ = some (.int .u64 ({ m with laid := true, n := n, g := g }).q) := (HB5.out.ptr (g := g8) (C := aMs { m with laid := true, n := n, g := g }) (t := 81) (by simp) 0).1
    have l1 : w5.cell? ⟨g8, 1, none⟩ = some (.int .i64 ({ m with laid := true, n := n, g := g }).is) := (HB5.out.ptr (g := g8) (C := aMs { m with laid := true, n := n, g := g }) (t := 81) (by simp) 1).1
    have l2 : w5.cell? ⟨g8, 2, none⟩ = some (.bool ({ m with laid := true, n := n, g := g }).laid) := (HB5.out.ptr (g := g8) (C := aMs { m with laid := true, n := n, g := g }) (t := 81) (by simp) 2).1
    have l3 : w5.cell? ⟨g8, 3, none⟩ = some (.int .i64 ({ m with laid := true, n := n, g := g }).n) := (HB5.out.ptr (g := g8) (C := aMs { m with laid := true, n := n, g := g }) (t := 81) (by simp) 3).1
    have l4 : w5.cell? ⟨g8, 4, none⟩ = some (.int .u64 ({ m with laid := true, n := n, g := g }).g) := (HB5.out.ptr (g := g8) (C := aMs { m with laid := true, n := n, g := g }) (t := 81) (by simp) 4).1
    have l5 : w5.cell? ⟨g8, 5, none⟩ = some (.int .i64 ({ m with laid := true, n := n, g := g }).x) := (HB5.out.ptr (g := g8) (C := aMs { m with laid := true, n := n, g := g }) (t := 81) (by simp) 5).1
    have l6 : w5.cell? ⟨g8, 6, none⟩ = some (.int .i64 ({ m with laid := true, n := n, g := g }).y) := (HB5.out.ptr (g := g8) (C := aMs { m with laid := true, n := n, g := g }) (t := 81) (by simp) 6).1
    go_upto_region 8 with (go_at_call 42; refine (set_calls HB5.out.rl i { m with laid := true, n := n, g := g } (List.getElem?_eq_some_iff.1 HE.out).1).mono ?_; rintro e w6 ⟨rfl, v', hrn⟩; have HB6 := Aside0.mk (HB5.out.call hrn); clear hrn)
    go_wp2
    go_ret
    exact ⟨_, HFN.out, Or.inr ⟨i, m, _, rfl, HE.out, rfl, HB6.out.nil⟩⟩
  · have b3 : decide ((-1 : Int) < 0) = true := rfl
    go_wp2
    go_ret
    exact ⟨_, HFN.out, Or.inl ⟨rfl, rfl, HB2.out.nil⟩⟩
set_option maxRecDepth 100000 in
set_option maxHeartbeats 4000000 in
theorem RReady_calls {w : World} {rb B : Nat} {r : RS} {v : Value} (h : RL w rb B r v) (q ep : Int) : Calls Try.prog 27 #[.pointer (some ⟨rb, 0, none⟩), .agg (aTick q ep)] w fun e w' => RdyE r q ep w e w' := by
  obtain ⟨A, c, rfl, hc⟩ := h.form
  have HB0 := Aside0.mk ((Rb.start h).alloc (.cells (aTick q ep) 34))
  have HW0 : Aside0 (Below w.heap.size w (w.alloc (.cells (aTick q ep) 34))) := ⟨(Below.refl _ _).alloc (Nat.le_refl _) _⟩
  have HLEN := Aside0.mk h.len.1
  clear h
  go_enter Try.func27, Try.ntmps27
  go_upto_region 1 with fail
  generalize hw1 : w.alloc (.cells (aTick q ep) 34) = w1 at HB0 HW0 ⊢
  clear hw1
  have z0 : w1.cell? ⟨w.heap.size, 0, none⟩ = some (.int .u64 q) := (HB0.out.ptr (C := aTick q ep) (t := 34) (by simp) 0).1
  have z1 : w1.cell? ⟨w.heap.size, 1, none⟩ = some (.int .u64 ep) := (HB0.out.ptr (C := aTick q ep) (t := 34) (by simp) 1).1
  go_upto_region 2 with (go_at_call 41; refine (find_calls HB0.out.rl q ep 1 1).mono ?_; rintro e w2 ⟨res, rfl, hfnd, hb2⟩; have HFN := Aside0.mk hfnd; have HB2 := Aside0.mk (HB0.out.below hb2); have HWB := Aside0.mk hb2; clear hfnd hb2)
  have HW2 := Aside0.mk (HW0.out.trans (HWB.out.mono HW0.out.size))
  clear z0 z1 HB0 HW0 HWB
  rcases HFN.out with ⟨i, hil, rfl, ⟨m, hm, -⟩, -⟩ | ⟨rfl, -⟩
  · have HE := Aside0.mk hm
    have HIL := Aside0.mk hil
    clear hm
    have b1 : (0 : Int) ≤ (i : Int) := Int.natCast_nonneg i
    have b2 : (i : Int) < (r.L.length : Int) := Int.ofNat_lt.2 hil
    have b3 : decide ((i : Int) < 0) = false := decide_eq_false (by omega)
    have ht : ((i : Int)).toNat = i := Int.toNat_natCast i
    clear hil
    have c4 := HB2.out.rl.cells.2.2.2.2
    obtain ⟨gT, oT, rfl, m0, m1, m2, m3, m4, m5, m6⟩ := HB2.out.rl.msg HE.out
    cases hl : m.laid
    · rw [hl] at m2
      have HLD := Aside0.mk hl
      clear hl
      go_wp2
      go_ret
      exact ⟨false, ⟨_, HFN.out, Or.inr ⟨i, m, rfl, HE.out, Or.inl ⟨HLD.out, rfl⟩⟩⟩, rfl, HW2.out⟩
    · rw [hl] at m2
      have HLD := Aside0.mk hl
      clear hl
      go_upto_region 4 with fail
      clear m0 m1 m2 m3 m4 m5 m6 c4 b1 b2 b3 ht
      go_wp2
      have HQ0 : Aside0 (Rb w rb B r (.slice (some ⟨gT, oT, none⟩) r.L.length c) [(w.heap.size, .cells (aTick q ep) 34)] w2 ∧ Below w.heap.size w w2 ∧ ∀ (k : Nat) m', k < 0 → r.L[k]? = some m' → ¬ m'.is = 1) := ⟨⟨HB2.out, HW2.out, fun k m' hk => by omega⟩⟩
      go_loopw [6] (fun k wr => ∃ k0 : Nat, k0 ≤ i ∧ k = .int .i64 (k0 : Int) ∧ Aside0 (Rb w rb B r (.slice (some ⟨gT, oT, none⟩) r.L.length c) [(w.heap.size, .cells (aTick q ep) 34)] wr ∧ Below w.heap.size w wr ∧ ∀ (k : Nat) m', k < k0 → r.L[k]? = some m' → ¬ m'.is = 1)) (fun k _ => i - (intOf k).toNat)
      case atStart => exact ⟨0, Nat.zero_le _, rfl, HQ0⟩
      case round =>
        clear HQ0 HB2 HW2
        obtain ⟨k, hkl, rfl, HS⟩ := hrel
        have c4 := HS.out.1.rl.cells.2.2.2.2
        by_cases hlt : k < i
        · have x1 : decide ((k : Int) < (i : Int)) = true := decide_eq_true (Int.ofNat_lt.2 hlt)
          have x1' : decide (k < i) = true := decide_eq_true hlt
          have hkL : k < r.L.length := Nat.lt_trans hlt HIL.out
          have b1 : (0 : Int) ≤ (k : Int) := Int.natCast_nonneg k
          have b2 : (k : Int) < (r.L.length : Int) := Int.ofNat_lt.2 hkL
          have ht : ((k : Int)).toNat = k := Int.toNat_natCast k
          have hwi : wrap64 ((k : Int) + 1) = (k : Int) + 1 := w64_nat (Nat.lt_of_lt_of_le hkL (Nat.le_trans HLEN.out (by decide)))
          have HHi : Aside0 (i - ((k : Int) + 1).toNat < i - ((k : Int)).toNat) := ⟨meas_nat hlt⟩
          have HL : Aside0 (k + 1 ≤ i) := ⟨hlt⟩
          have HE' : Aside0 (r.L[k]? = some r.L[k]) := ⟨List.getElem?_eq_getElem hkL⟩
          obtain ⟨gT', oT', hA, m0, m1, m2, m3, m4, m5, m6⟩ := HS.out.1.rl.msg HE'.out
          injection hA with hA
          injection hA with hA1 hA2
          subst hA1 hA2
          generalize r.L[k] = m' at HE' m0 m1 m2 m3 m4 m5 m6
          clear m0 m2 m3 m4 m5 m6 hlt hkl hkL
          by_cases h1 : m'.is = 1
          · have k1 : (m'.is == 1) = true := by simp [h1]
            have HP := Aside0.mk h1
            have HS2 := Aside0.mk HS.out.2.1
            clear h1
            go_wp2
            go_ret
            exact ⟨false, ⟨_, HFN.out, Or.inr ⟨i, m, rfl, HE.out, Or.inr ⟨HLD.out, Or.inl ⟨rfl, k, m', HL.out, HE'.out, HP.out⟩⟩⟩⟩, rfl, HS2.out⟩
          · have k1 : (m'.is == 1) = false := by simp [h1]
            have HN := Aside0.mk h1
            clear h1
            go_wp2
            go_roundw
            case rel => exact ⟨k + 1, HL.out, (by first | rfl | (rw [hwi]; rfl)), ⟨HS.out.1, HS.out.2.1, no_step (p := fun x => x.is = 1) HS.out.2.2 HE'.out HN.out⟩⟩
            case measure => first | exact HHi.out | (simp only [hwi]; exact HHi.out)
        · have x1 : decide ((k : Int) < (i : Int)) = false := decide_eq_false (fun h => hlt (Int.ofNat_lt.1 h))
          have x1' : decide (k < i) = false := decide_eq_false hlt
          have HNO : Aside0 (∀ (k : Nat) (m' : Ms), k < i → r.L[k]? = some m' → ¬ m'.is = 1) := ⟨fun k' m' hk' => HS.out.2.2 k' m' (by omega)⟩
          have HS2 := Aside0.mk HS.out.2.1
          clear hlt hkl HS c4
          go_wp2
          go_ret
          exact ⟨true, ⟨_, HFN.out, Or.inr ⟨i, m, rfl, HE.out, Or.inr ⟨HLD.out, Or.inr ⟨rfl, HNO.out⟩⟩⟩⟩, rfl, HS2.out⟩
  · go_wp2
    go_ret
    exact ⟨false, ⟨_, HFN.out, Or.inl ⟨rfl, rfl⟩⟩, rfl, HW2.out⟩
/-- What Publish answers, and makes. -/
def PubE (r : RS) (q ep x y : Int) (rb B : Nat) (v : Value) (w : World) (e : Ending) (w' : World) : Prop :=
    ∃ res : Int, Fnd r.L (CP r q ep 1) res ∧ ((res = -1 ∧ e = .returned (.int .i64 82) ∧ Rb w rb B r v [] w') ∨ (∃ (i : Nat) (m : Ms), res = (i : Int) ∧ r.L[i]? = some m ∧ ((m.laid = false ∧ e = .returned (.int .i64 82) ∧ Rb w rb B r v [] w') ∨
      (m.laid = true ∧ ∃ b, RdyD r q ep b ∧ ((b = false ∧ e = .returned (.int .i64 83) ∧ Rb w rb B r v [] w') ∨ (b = true ∧ e = .returned (.int .i64 0) ∧ ∃ v', Rb w rb B { r with L := r.L.set i { m with is := 2, x := x, y := y } } v' [] w'))))))
set_option maxRecDepth 100000 in
set_option maxHeartbeats 4000000 in
theorem RPub_calls {w : World} {rb B : Nat} {r : RS} {v : Value} (h : RL w rb B r v) (q ep x y : Int) : Calls Try.prog 28 #[.pointer (some ⟨rb, 0, none⟩), .agg (aTick q ep), .agg (aStamp x y)] w fun e w' => PubE r q ep x y rb B v w e w' := by
  obtain ⟨A, c, rfl, hc⟩ := h.form
  have HB0 := Aside0.mk ((Rb.start h).alloc2 (.cells (aTick q ep) 34) (.cells (aStamp x y) 38))
  clear h
  go_enter Try.func28, Try.ntmps28
  go_upto_region 1 with fail
  generalize hw1 : (w.alloc (.cells (aTick q ep) 34)).alloc (.cells (aStamp x y) 38) = w1 at HB0 ⊢
  clear hw1
  have z0 : w1.cell? ⟨w.heap.size, 0, none⟩ = some (.int .u64 q) := (HB0.out.ptr (C := aTick q ep) (t := 34) (by simp) 0).1
  have z1 : w1.cell? ⟨w.heap.size, 1, none⟩ = some (.int .u64 ep) := (HB0.out.ptr (C := aTick q ep) (t := 34) (by simp) 1).1
  go_upto_region 2 with (go_at_call 41; refine (find_calls HB0.out.rl q ep 1 1).mono ?_; rintro e w2 ⟨res, rfl, hfnd, hb2⟩; have HFN := Aside0.mk hfnd; have HB2 := Aside0.mk (HB0.out.below hb2); have HWB := Aside0.mk hb2; clear hfnd hb2)
  clear z0 z1 HB0
  rcases HFN.out with ⟨i, hil, rfl, ⟨m, hm, -⟩, -⟩ | ⟨rfl, -⟩
  · have HE := Aside0.mk hm
    clear hm
    have b1 : (0 : Int) ≤ (i : Int) := Int.natCast_nonneg i
    have b2 : (i : Int) < (r.L.length : Int) := Int.ofNat_lt.2 hil
    have b3 : decide ((i : Int) < 0) = false := decide_eq_false (by omega)
    have ht : ((i : Int)).toNat = i := Int.toNat_natCast i
    clear hil
    have c4 := HB2.out.rl.cells.2.2.2.2
    obtain ⟨gT, oT, rfl, m0, m1, m2, m3, m4, m5, m6⟩ := HB2.out.rl.msg HE.out
    cases hl : m.laid
    · rw [hl] at m2
      have HLD := Aside0.mk hl
      clear hl
      go_wp2
      go_ret
      exact ⟨_, HFN.out, Or.inr ⟨i, m, rfl, HE.out, Or.inl ⟨HLD.out, rfl, HB2.out.nil⟩⟩⟩
    · rw [hl] at m2
      have HLD := Aside0.mk hl
      clear hl
      go_upto_region 4 with fail
      clear m0 m1 m2 m3 m4 m5 m6 c4
      have z0 : w2.cell? ⟨w.heap.size, 0, none⟩ = some (.int .u64 q) := (HB2.out.ptr (C := aTick q ep) (t := 34) (by simp) 0).1
      have z1 : w2.cell? ⟨w.heap.size, 1, none⟩ = some (.int .u64 ep) := (HB2.out.ptr (C := aTick q ep) (t := 34) (by simp) 1).1
      have HRD : Aside0 (Calls Try.prog 27 #[.pointer (some ⟨rb, 0, none⟩), .agg (aTick q ep)] w2 fun e w' => (RdyD r q ep false ∧ e = .returned (.bool false) ∧ Below w2.heap.size w2 w') ∨ (RdyD r q ep true ∧ e = .returned (.bool true) ∧ Below w2.heap.size w2 w')) := ⟨(RReady_calls HB2.out.rl q ep).mono (fun e w' hh => by
        obtain ⟨b, h1, h2, h3⟩ := hh
        cases b
        · exact Or.inl ⟨h1, h2, h3⟩
        · exact Or.inr ⟨h1, h2, h3⟩)⟩
      go_upto_region 6 with (go_at_call 27; refine HRD.out.mono ?_; rintro e w3' (⟨hr1, rfl, hb3⟩ | ⟨hr1, rfl, hb3⟩) <;> (have HRY := Aside0.mk hr1; have HB2' := Aside0.mk (HB2.out.below hb3); clear hr1 hb3))
      any_goals (first | (go_ret; exact ⟨_, HFN.out, Or.inr ⟨i, m, rfl, HE.out, Or.inr ⟨HLD.out, false, HRY.out, Or.inl ⟨rfl, rfl, HB2'.out.nil⟩⟩⟩⟩; done) | skip)
      clear z0 z1
      have c4 := HB2'.out.rl.cells.2.2.2.2
      obtain ⟨gT', oT', hA, m0, m1, m2, m3, m4, m5, m6⟩ := HB2'.out.rl.msg HE.out
      injection hA with hA
      injection hA with hA1 hA2
      subst hA1 hA2
      go_upto_region 7 with fail
      clear m0 m1 m2 m3 m4 m5 m6 c4
      have HB3 := Aside0.mk (HB2'.out.alloc (.cells (aMs m) 81))
      have HFR := Aside0.mk HB2'.out.fresh
      try change Code.wp _ _ _ _ (w3'.alloc (.cells (aMs m) 81))
      generalize w3'.alloc (.cells (aMs m) 81) = w3 at HB3 ⊢
      generalize w3'.heap.size = g8 at HB3 HFR ⊢
      have x1 := HB3.out.ptr (g := g8) (C := aMs m) (t := 81) (by simp) 1
      obtain ⟨x1, y1⟩ := x1
      replace x1 : w3.cell? ⟨g8, 1, none⟩ = some (.int .i64 m.is) := x1
      go_upto_region 8 with fail
      clear x1 y1
      have HB4 : Aside0 (Rb w rb B r (.slice (some ⟨gT, oT, none⟩) r.L.length c) [(g8, .cells (aMs { m with is := 2 }) 81), (w.heap.size + 1, .cells (aStamp x y) 38), (w.heap.size, .cells (aTick q ep) 34)] (w3.setCell ⟨g8, 1, none⟩ (.int .i64 2))) := ⟨HB3.out.head HFR.out 1 [.int .i64 2] rfl⟩
      generalize w3.setCell ⟨g8, 1, none⟩ (.int .i64 2) = w4 at HB4 ⊢
      have s0 : w4.cell? ⟨w.heap.size + 1, 0, none⟩ = some (.int .i64 x) := (HB4.out.ptr (C := aStamp x y) (t := 38) (by simp) 0).1
      have s1 : w4.cell? ⟨w.heap.size + 1, 1, none⟩ = some (.int .i64 y) := (HB4.out.ptr (C := aStamp x y) (t := 38) (by simp) 1).1
      go_upto_region 9 with (first | ((with_reducible refine gate_store (t := 38) (p := 38) rfl ?_); refine store_blk rfl 38 (.tmp 38) (.tmp 37) rfl g8 5 (aStamp x y) (aMs { m with is := 2 }) 81 rfl rfl (HB4.out.blk (g := g8) (C := aMs { m with is := 2 }) (t := 81) (by simp)) (by simp [aMs, aStamp]) (by kernel_rfl) (by simp [aStamp, Value.oneCell']) ?_; intro w5 hw5 _; have HB5 : Aside0 (Rb w rb B r (.slice (some ⟨gT, oT, none⟩) r.L.length c) [(g8, .cells (aMs { m with is := 2, x := x, y := y }) 81), (w.heap.size + 1, .cells (aStamp x y) 38), (w.heap.size, .cells (aTick q ep) 34)] w5) := ⟨by rw [hw5]; exact HB4.out.head HFR.out 5 _ rfl⟩; clear hw5))
      clear s0 s1
      have l0 : w5.cell? ⟨g8, 0, none⟩ = some (.int .u64 ({ m with is := 2, x := x, y := y }).q) := (HB5.out.ptr (g := g8) (C := aMs { m with is := 2, x := x, y := y }) (t := 81) (by simp) 0).1
      have l1 : w5.cell? ⟨g8, 1, none⟩ = some (.int .i64 ({ m with is := 2, x := x, y := y }).is) := (HB5.out.ptr (g := g8) (C := aMs { m with is := 2, x := x, y := y }) (t := 81) (by simp) 1).1
      have l2 : w5.cell? ⟨g8, 2, none⟩ = some (.bool ({ m with is := 2, x := x, y := y }).laid) := (HB5.out.ptr (g := g8) (C := aMs { m with is := 2, x := x, y := y }) (t := 81) (by simp) 2).1
      have l3 : w5.cell? ⟨g8, 3, none⟩ = some (.int .i64 ({ m with is := 2, x := x, y := y }).n) := (HB5.out.ptr (g := g8) (C := aMs { m with is := 2, x := x, y := y }) (t := 81) (by simp) 3).1
      have l4 : w5.cell? ⟨g8, 4, none⟩ = some (.int .u64 ({ m with is := 2, x := x, y := y }).g) := (HB5.out.ptr (g := g8) (C := aMs { m with is := 2, x := x, y := y }) (t := 81) (by simp) 4).1
      have l5 : w5.cell? ⟨g8, 5, none⟩ = some (.int .i64 ({ m with is := 2, x := x, y := y }).x) := (HB5.out.ptr (g := g8) (C := aMs { m with is := 2, x := x, y := y }) (t := 81) (by simp) 5).1
      have l6 : w5.cell? ⟨g8, 6, none⟩ = some (.int .i64 ({ m with is := 2, x := x, y := y }).y) := (HB5.out.ptr (g := g8) (C := aMs { m with is := 2, x := x, y := y }) (t := 81) (by simp) 6).1
      go_upto_region 10 with (go_at_call 42; refine (set_calls HB5.out.rl i { m with is := 2, x := x, y := y } (List.getElem?_eq_some_iff.1 HE.out).1).mono ?_; rintro e w6 ⟨rfl, v', hrn⟩; have HB6 := Aside0.mk (HB5.out.call hrn); clear hrn)
      go_wp2
      go_ret
      exact ⟨_, HFN.out, Or.inr ⟨i, m, rfl, HE.out, Or.inr ⟨HLD.out, true, HRY.out, Or.inr ⟨rfl, rfl, v', HB6.out.nil⟩⟩⟩⟩
  · go_wp2
    go_ret
    exact ⟨_, HFN.out, Or.inl ⟨rfl, rfl, HB2.out.nil⟩⟩
end Go.Proofs.Ytglekbbdbnpohaa.QLn
