/- Agenda: Push. -/
import Derived.Test.YthjppjcmapgkpaaM1Ag
namespace Go.Proofs.Ythjppjcmapgkpaa.QAg
open Go.RowKit Go.Maps Go.Proofs.YthjppjcmapgkpaaW.PrintWords Go.Proofs.YthjppjcmapgkpaaW.PrintLast Go.Proofs.YthjppjcmapgkpaaW.PrintMore
set_option linter.unusedVariables false
set_option linter.unusedSimpArgs false
theorem ownsMap_of {P : Program} {k : TypeId} {H : Type} {R : Value → Option (DataW H × List MemPlace)} {m n : Nat} {D : DataW H} {w w' : World} (h : w.ownsMap P k R m n D) (e : w'.heap[m]? = w.heap[m]?) : w'.ownsMap P k R m n D := by
  obtain ⟨es, clock, hb, r⟩ := h
  exact ⟨es, clock, e.trans hb, r⟩
theorem Am.below {w w' : World} {b mb B : Nat} {f v : Value} {nx : Int} {n : Nat} {e : Nat → En} {l : List (Int × Nat)} (h : Am w b mb B f v nx n e l) (k : Below w.heap.size w w') : Am w' b mb B f v nx n e l := by
  obtain ⟨N, D, h1, h2, h3⟩ := h.mp
  exact ⟨⟨h.hq.hp.below k, h.hq.bd⟩, ⟨N, D, ownsMap_of h1 (k.block _ h1.lt), h2, h3⟩, h.ml⟩
theorem Ag.wide {b mb B : Nat} {w w' : World} (h : Ag b b B w w') : Ag b mb B w w' :=
  ⟨h.os, h.tape, h.output, h.size, fun i hi => by
    rcases h.block i hi with h1 | h1 | h1 | h1
    · exact Or.inl h1
    · exact Or.inr (Or.inl h1)
    · exact Or.inr (Or.inl h1)
    · exact Or.inr (Or.inr (Or.inr h1)), h.keep⟩
/-- Blocks that do not turn where the map alone does. -/
theorem Hq.turn {w w' : World} {b mb B : Nat} {f m v : Value} {nx : Int} {n : Nat} {e : Nat → En} (h : Hq w b B f m v nx n e) (hs : w.heap.size ≤ w'.heap.size) (hk : ∀ (i : Nat) (cur : Array Value) (t : TypeId), w.heap[i]? = some (.cells cur t (0, 0)) → w'.heap[i]? = some (.cells cur t (0, 0))) : Hq w' b B f m v nx n e :=
  ⟨⟨hk _ _ _ h.hp.blk, h.hp.row.of (fun g cur _ hg => (hk _ _ _ hg).trans hg.symm), fun i hi => hk _ _ _ (h.hp.ent i hi), h.hp.inj, h.hp.lt, Nat.le_trans h.hp.sz hs, h.hp.n6⟩, h.bd⟩
theorem cells_map {w w' : World} {mb : Nat} {es : Array MapEntry} {cl : Nat} (hm : w.heap[mb]? = some (.map es cl)) (hg : w.grownBy w' (some mb)) {i : Nat} {cur : Array Value} {t : TypeId} (hi : w.heap[i]? = some (.cells cur t (0, 0))) : w'.heap[i]? = some (.cells cur t (0, 0)) := by
  rw [hg.block i (Array.getElem?_eq_some_iff.1 hi).1 (fun hc => by
    injection hc with hc
    rw [hc, hm] at hi
    cases hi)]
  exact hi
theorem ag_map {w w' : World} {b mb B : Nat} {es : Array MapEntry} {cl : Nat} (hm : w.heap[mb]? = some (.map es cl)) (hg : w.grownBy w' (some mb)) : Ag b mb B w w' :=
  ⟨hg.os, hg.tape, hg.output, hg.size, fun i hi => by
    by_cases him : i = mb
    · exact Or.inr (Or.inr (Or.inl him))
    · exact Or.inl (hg.block i hi (fun hc => him (by injection hc))), fun i cur t hi => ⟨cur, cells_map hm hg hi⟩⟩
/-- Behind the map's turn. -/
theorem Am.map_turn {w w' : World} {b mb B N' : Nat} {f v : Value} {nx : Int} {n : Nat} {e : Nat → En} {l' : List (Int × Nat)} {D' : DataW Nat} (h : Hq w b B f (.map (some mb)) v nx n e) (ml : mb < B ∧ mb ≠ b) {es : Array MapEntry} {cl : Nat} (hm : w.heap[mb]? = some (.map es cl)) (hg : w.grownBy w' (some mb)) (hN : (N' : Int) < nx) (ho : w'.ownsMap Try.prog 3 Rv mb N' D') (hL : Lst D' l') : Am w' b mb B f v nx n e l' ∧ Ag b mb B w w' :=
  ⟨⟨h.turn (mb := mb) hg.size (fun i cur t hi => cells_map hm hg hi), ⟨_, _, ho, hL, hN⟩, ml⟩, ag_map hm hg⟩
theorem own_block {w : World} {mb N : Nat} {D : DataW Nat} (h : w.ownsMap Try.prog 3 Rv mb N D) : ∃ es cl, w.heap[mb]? = some (.map es cl) := by
  obtain ⟨es, cl, hb, _⟩ := h
  exact ⟨es, cl, hb⟩
/-- next++. -/
theorem Hq.next {w : World} {b B : Nat} {f m v : Value} {nx : Int} {n : Nat} {e : Nat → En} (h : Hq w b B f m v nx n e) (nx' : Int) : Hq (w.setCell ⟨b, 3, none⟩ (.int .i64 nx')) b B f m v nx' n e := by
  have hb := blk_set h.hp.blk 3 (.int .i64 nx')
  have hk : ∀ (i : Nat) (cur : Array Value) (t : TypeId), w.heap[i]? = some (.cells cur t (0, 0)) → t ≠ 63 → (w.setCell ⟨b, 3, none⟩ (.int .i64 nx')).heap[i]? = some (.cells cur t (0, 0)) := fun i cur t hi ht => (Below.heap_setCell _ _ _ _ (fun hc => by
    have h1 := h.hp.blk
    rw [hc] at hi
    rw [h1] at hi
    injection hi with hi
    injection hi with _ hi
    exact ht hi.symm)).trans hi
  exact ⟨⟨hb, h.hp.row.of (fun g cur _ hg => (hk _ _ _ hg (by decide)).trans hg.symm), fun i hi => hk _ _ _ (h.hp.ent i hi) (by decide), h.hp.inj, h.hp.lt, by have := h.hp.sz; simpa [World.setCell] using this, h.hp.n6⟩, h.bd⟩
theorem w64_id {x : Int} (h1 : 0 ≤ x) (h2 : x ≤ 1000000) : wrap64 x = x ∧ IntKind.i64.wrap x = x := ⟨by unfold wrap64; omega, by rw [IntKind.wrap_i64]; omega⟩
theorem wf64 {x : Int} (h1 : 0 ≤ x) (h2 : x ≤ 1000000) : (Lit.int .i64 x).wf = true := by
  have h3 : IntKind.i64.min = -9223372036854775808 := by decide
  have h4 : IntKind.i64.max = 9223372036854775807 := by decide
  simp only [Lit.wf, Bool.and_eq_true, decide_eq_true_eq, h3, h4]
  omega
theorem Am.after {w w' : World} {b mb B : Nat} {f v v' : Value} {nx : Int} {n n' : Nat} {e e' : Nat → En} {l : List (Int × Nat)} (h : Am w b mb B f v nx n e l) (hg : Ag b b B w w') (hq : Hq w' b B f (.map (some mb)) v' nx n' e') : Am w' b mb B f v' nx n' e' l := by
  obtain ⟨N, D, h1, h2, h3⟩ := h.mp
  refine ⟨hq, ⟨N, D, ownsMap_of h1 ?_, h2, h3⟩, h.ml⟩
  rcases hg.block mb h1.lt with e1 | e1 | e1 | e1
  · exact e1
  · exact absurd e1 h.ml.2
  · exact absurd e1 h.ml.2
  · exact absurd e1.1 (by have := h.ml.1; omega)
set_option maxRecDepth 100000 in
set_option maxHeartbeats 2000000 in
theorem Push_calls {w : World} {b mb B : Nat} {v : Value} {nx : Int} {n : Nat} {e : Nat → En} {l : List (Int × Nat)} (h : Am w b mb B fLess v nx n e l) (hn : n + 1 ≤ 1000000) (h1 : 1 ≤ nx) (h2 : nx < 1000000) (hk : ∀ x ∈ l, x.1 < nx) (k m : Int) : Calls Try.prog 15 #[.pointer (some ⟨b, 0, none⟩), .agg (aT k m)] w fun r w' => r = .returned (.tuple #[.int .i64 nx, .int .i64 0]) ∧ ∃ g v' e2, w.heap.size ≤ g ∧ UpR LE (psh e n ⟨g, nx, k, m⟩) n e2 ∧ Am w' b mb B fLess v' (nx + 1) (n + 1) e2 (l ++ [(nx, g)]) ∧ Ag b mb B w w' := by
  have q1 : wrap64 (nx + 1) = nx + 1 := (w64_id (by omega) (by omega)).1
  have q2 : IntKind.i64.wrap (nx + 1) = nx + 1 := (w64_id (by omega) (by omega)).2
  have HW1 : Aside0 (Below w.heap.size w (w.alloc (.cells (aT k m) 27))) := ⟨(Below.refl _ _).alloc (Nat.le_refl _) _⟩
  have HA := Aside0.mk (h.below HW1.out)
  have HK := Aside0.mk hk
  have HN := Aside0.mk (And.intro hn (And.intro h1 h2))
  have hp : (w.alloc (.cells (aT k m) 27)).heap[w.heap.size]? = some (.cells (aT k m) 27 (0, 0)) := World.alloc_heap_new _ _
  have x0 : (w.alloc (.cells (aT k m) 27)).cell? ⟨w.heap.size, 0, none⟩ = some (.int .i8 k) := by simp only [World.cell?, hp]; rfl
  have x1 : (w.alloc (.cells (aT k m) 27)).cell? ⟨w.heap.size, 1, none⟩ = some (.int .i64 m) := by simp only [World.cell?, hp]; rfl
  clear h hn h1 h2 hk hp
  go_enter Try.func15, Try.ntmps15
  go_upto_region 3 with (go_at_call 33; refine (is_calls HA.out.hq.hp).mono ?_; rintro r w2 ⟨rfl, hw2⟩; replace hw2 := hw2.symm; subst hw2)
  obtain ⟨c0, c1, c2, c3⟩ := HA.out.hq.hp.cells
  clear c0 c1 c2
  generalize w.alloc (.cells (aT k m) 27) = w1 at HA HW1 x0 x1 c3 ⊢
  go_still_tail 6, rfl
  go_upto_region 4 with fail
  have HW2 : Aside0 (Below w1.heap.size w1 ((w1.alloc (.cells (aE ⟨w1.heap.size, nx, k, m⟩ 0) 75)).drew)) := ⟨((Below.refl _ _).alloc (Nat.le_refl _) _).drew⟩
  have HX : Aside0 (((w1.alloc (.cells (aE ⟨w1.heap.size, nx, k, m⟩ 0) 75)).drew).heap[w1.heap.size]? = some (.cells (aE ⟨w1.heap.size, nx, k, m⟩ 0) 75 (0, 0))) := ⟨World.alloc_heap_new _ _⟩
  have HG : Aside0 (B ≤ w1.heap.size ∧ w.heap.size ≤ w1.heap.size ∧ ∀ j, j < n → (e j).g ≠ w1.heap.size) := ⟨HA.out.hq.hp.sz, HW1.out.size, fun j hj => by have := (Array.getElem?_eq_some_iff.1 (HA.out.hq.hp.ent j hj)).1; omega⟩
  have HB := Aside0.mk (HA.out.below HW2.out)
  have HAG : Aside0 (Ag b mb B w ((w1.alloc (.cells (aE ⟨w1.heap.size, nx, k, m⟩ 0) 75)).drew)) := ⟨(Ag.of_below HW1.out).trans (Ag.of_below HW2.out)⟩
  try change Code.wp _ _ _ _ ((w1.alloc (.cells (aE ⟨w1.heap.size, nx, k, m⟩ 0) 75)).drew)
  clear HW2 c3 x0 x1
  generalize (w1.alloc (.cells (aE ⟨w1.heap.size, nx, k, m⟩ 0) 75)).drew = w2 at HX HB HAG ⊢
  generalize w1.heap.size = g at HX HG ⊢
  clear HA
  obtain ⟨c0, c1, c2, c3⟩ := HB.out.hq.hp.cells
  clear c0 c1 c2
  have f3 : w2.frozen? ⟨b, 3, none⟩ = false := HB.out.hq.hp.frozen 3
  go_upto_region 5 with fail
  clear c3 f3
  have HC := Aside0.mk (HB.out.hq.next (nx + 1))
  have HNE : Aside0 (mb ≠ b) := ⟨HB.out.ml.2⟩
  have hgb : g ≠ b := fun hc => by
    have h1 := HX.out
    have h2 := HB.out.hq.hp.blk
    rw [hc] at h1
    rw [h1] at h2
    injection h2 with h2
    injection h2 with _ h2
    exact absurd h2 (by decide)
  have HX2 : Aside0 ((w2.setCell ⟨b, 3, none⟩ (.int .i64 (nx + 1))).heap[g]? = some (.cells (aE ⟨g, nx, k, m⟩ 0) 75 (0, 0))) := ⟨(Below.heap_setCell _ _ _ _ hgb).trans HX.out⟩
  have HM : Aside0 (∃ N D, (w2.setCell ⟨b, 3, none⟩ (.int .i64 (nx + 1))).ownsMap Try.prog 3 Rv mb N D ∧ Lst D l ∧ (N : Int) < nx) := ⟨by
    obtain ⟨N, D, h1, h2, h3⟩ := HB.out.mp
    exact ⟨N, D, ownsMap_of h1 (Below.heap_setCell _ _ _ _ HNE.out), h2, h3⟩⟩
  have HAG2 : Aside0 (Ag b mb B w (w2.setCell ⟨b, 3, none⟩ (.int .i64 (nx + 1)))) := ⟨HAG.out.setB HB.out.hq.hp.blk _⟩
  have HML := Aside0.mk HB.out.ml
  clear HB HAG HX hgb HNE
  generalize w2.setCell ⟨b, 3, none⟩ (.int .i64 (nx + 1)) = w3 at HX2 HC HM HAG2 ⊢
  obtain ⟨c0, c1, c2, c3⟩ := HC.out.hp.cells
  clear c0 c1 c3
  have x0 : w3.cell? ⟨g, 0, none⟩ = some (.int .i64 nx) := by have := HX2.out; simp only [World.cell?, this]; rfl
  go_still_tail 9, rfl
  obtain ⟨N, D, ho, hL, hN⟩ := HM.out
  have HO := Aside0.mk (And.intro ho (And.intro hL hN))
  have HOK : Aside0 (N < maxLen ∧ (Lit.int .i64 nx).wf = true) := ⟨by have := HN.out.2.2; unfold maxLen; omega, wf64 (by have := HN.out.2.1; omega) (by have := HN.out.2.2; omega)⟩
  clear ho hL hN HM
  go_upto_region 6 with (at_mapUpdate; refine wpList_mapUpdate_own _ rfl (.tmp 27) (.tmp 31) (.tmp 32) 61 rfl 3 73 keyed Try.underlying61 Rv mb N D rfl (ownsMap_of HO.out.1 rfl) HOK.out.1 _ _ (.int .i64 nx) rfl rfl (own_key HOK.out.2) (.held g) [] rfl ?_; intro w4 hown hgrow; have HX4 := Aside0.mk (And.intro hown hgrow); clear hown hgrow)
  obtain ⟨es, cl, hbm⟩ := own_block HO.out.1
  have HT := Aside0.mk (Am.map_turn (w := w3.drew) (N' := N + 1) (HC.out.turn (mb := mb) (Nat.le_refl _) (fun _ _ _ h => h)) HML.out hbm HX4.out.2 (by have := HO.out.2.2; omega) HX4.out.1 (HO.out.2.1.put_new nx g (fun y hy => by have := HK.out y hy; omega)))
  have HX5 : Aside0 (w4.heap[g]? = some (.cells (aE ⟨g, nx, k, m⟩ 0) 75 (0, 0))) := ⟨cells_map (w := w3.drew) hbm HX4.out.2 HX2.out⟩
  have HAG3 : Aside0 (Ag b mb B w w4) := ⟨HAG2.out.trans ((Ag.of_below (Below.refl _ _).drew).trans HT.out.2)⟩
  clear hbm HO HX4 HC HX2 HAG2 HML HOK c2 x0
  go_upto_region 7 with (go_at_call 35; refine (heapPush_calls (mb := b) HT.out.1.hq ⟨g, nx, k, m⟩ HX5.out HG.out.1 HG.out.2.2 HN.out.1).mono ?_; rintro r w5 ⟨rfl, e2, v', hu, hq5, hg5⟩; have HU := Aside0.mk (And.intro hu (And.intro (HT.out.1.after hg5 hq5) (HAG3.out.trans hg5.wide))); clear hu hq5 hg5)
  obtain ⟨jx, hjx, hex⟩ := (HU.out.1.same (Nat.lt_succ_self n)).fwd n (Nat.lt_succ_self n)
  rw [psh_new] at hex
  have x0 : w5.cell? ⟨g, 0, none⟩ = some (.int .i64 nx) := by
    have := HU.out.2.1.hq.hp.ent jx hjx
    rw [hex] at this
    exact (ent_cells this).1
  clear hjx hex
  go_wp2
  exact bodyPost_ret (results_tmp2 rfl _ _ _) rfl ⟨rfl, g, v', e2, HG.out.2.1, HU.out.1, HU.out.2.1, HU.out.2.2⟩
end Go.Proofs.Ythjppjcmapgkpaa.QAg
