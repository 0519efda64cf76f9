/- Agenda: the row's Swap. Written by a program of this repo (tools/gen_ag2.py). -/
import Derived.Test.YthjppjcmapgkpaaDAg
namespace Go.Proofs.Ythjppjcmapgkpaa.QAg
open Go.RowKit Go.Proofs.YthjppjcmapgkpaaW.PrintWords Go.Proofs.YthjppjcmapgkpaaW.PrintLast Go.Proofs.YthjppjcmapgkpaaW.PrintMore
set_option linter.unusedVariables false
set_option linter.unusedSimpArgs false
/-- Nothing has turned but the agenda's block and map, and rows and entries from B on. -/
structure Ag (b mb B : Nat) (w w' : World) : Prop where
  os : w'.os = w.os
  tape : w'.tape = w.tape
  output : w'.output = w.output
  size : w.heap.size ≤ w'.heap.size
  block : ∀ i, i < w.heap.size → w'.heap[i]? = w.heap[i]? ∨ i = b ∨ i = mb ∨ (B ≤ i ∧ ∃ cur t, w.heap[i]? = some (.cells cur t (0, 0)) ∧ (t = 73 ∨ t = 75))
  keep : ∀ (i : Nat) (cur : Array Value) (t : TypeId), w.heap[i]? = some (.cells cur t (0, 0)) → ∃ cur', w'.heap[i]? = some (.cells cur' t (0, 0))
theorem Ag.of_below {b mb B : Nat} {w w' : World} (h : Below w.heap.size w w') : Ag b mb B w w' :=
  ⟨h.os, h.tape, h.output, h.size, fun i hi => Or.inl (h.block i hi), fun i cur t hi => ⟨cur, obj_below h hi⟩⟩
theorem Ag.trans {b mb B : Nat} {u v w : World} (h : Ag b mb B u v) (k : Ag b mb B v w) : Ag b mb B u w := by
  refine ⟨k.os.trans h.os, k.tape.trans h.tape, k.output.trans h.output, Nat.le_trans h.size k.size, fun i hi => ?_, fun i cur t hi => ?_⟩
  · rcases h.block i hi with h1 | h1 | h1 | h1
    · rcases k.block i (Nat.lt_of_lt_of_le hi h.size) with k1 | k1 | k1 | ⟨k1, cur, t, k2, k3⟩
      · exact Or.inl (k1.trans h1)
      · exact Or.inr (Or.inl k1)
      · exact Or.inr (Or.inr (Or.inl k1))
      · exact Or.inr (Or.inr (Or.inr ⟨k1, cur, t, h1 ▸ k2, k3⟩))
    · exact Or.inr (Or.inl h1)
    · exact Or.inr (Or.inr (Or.inl h1))
    · exact Or.inr (Or.inr (Or.inr h1))
  · obtain ⟨c1, e1⟩ := h.keep i cur t hi
    exact k.keep i c1 t e1
theorem Ag.set {b mb B g o : Nat} {w0 w : World} {cur : Array Value} {t : TypeId} (h : Ag b mb B w0 w) (hg : w.heap[g]? = some (.cells cur t (0, 0))) (hB : B ≤ g) (ht : t = 73 ∨ t = 75) (u : Value) : Ag b mb B w0 (w.setCell ⟨g, o, none⟩ u) := by
  refine h.trans ⟨rfl, rfl, rfl, by simp [World.setCell], fun i hi => ?_, fun i c t' hi => ?_⟩
  · by_cases hig : i = g
    · subst hig; exact Or.inr (Or.inr (Or.inr ⟨hB, cur, t, hg, ht⟩))
    · exact Or.inl (Below.heap_setCell _ _ _ _ hig)
  · by_cases hig : i = g
    · subst hig
      rw [hg] at hi
      cases hi
      exact ⟨_, blk_set hg o u⟩
    · exact ⟨c, (Below.heap_setCell _ _ _ _ hig).trans hi⟩
theorem RowQ.put {w : World} {B : Nat} {e : TypeId} {n c g o : Nat} {xs : List Value} (h : RowQ w B e 1 (.slice (some ⟨g, o, none⟩) n c) n xs) {i : Nat} (hi : i < n) (u : Value) :
    RowQ (w.setCell ⟨g, o + i, none⟩ u) B e 1 (.slice (some ⟨g, o, none⟩) n c) n (xs.set i u) := by
  obtain ⟨g', o', cap, cur, hv, q1, q2, q3, q4, q5⟩ := h.lies (by omega)
  injection hv with e1 e2 e3
  injection e1 with e1
  injection e1 with e4 e5
  subst e3 e4 e5
  have := RowQ.set (sz := 1) h.1 (by omega) q1 q2 q3 q4 q5 i hi [u] rfl (xs.set i u) (by rw [List.length_set]) (fun j hj => ?_) (fun j hj => ?_)
  · rw [Nat.mul_one] at this; exact this
  · have hj0 : j = 0 := by omega
    subst hj0
    rw [Nat.mul_one, Nat.add_zero, List.getElem?_set_self (by have := h.1; omega)]
    rfl
  · rw [List.getElem?_set_ne (by omega)]
theorem fE_set (e : Nat → En) {n i j : Nat} (hi : i < n) (hj : j < n) : ((fE e n).set i (.pointer (some ⟨(e j).g, 0, none⟩))).set j (.pointer (some ⟨(e i).g, 0, none⟩)) = fE (swp e i j) n := by
  refine List.ext_getElem? (fun k => ?_)
  have hl : (fE e n).length = n := by rw [fE_len, Nat.mul_one]
  rcases Nat.lt_or_ge k n with hk | hk
  · rw [fE_get _ hk, List.getElem?_set, List.getElem?_set]
    by_cases h1 : j = k
    · subst h1
      rw [if_pos rfl, if_pos (by rw [List.length_set, hl]; exact hk), swp_r]
    · rw [if_neg h1]
      by_cases h2 : i = k
      · subst h2
        rw [if_pos rfl, if_pos (by rw [hl]; exact hk), swp_l]
      · rw [if_neg h2, fE_get _ hk, swp_o _ (Ne.symm h2) (Ne.symm h1)]
  · rw [List.getElem?_eq_none (by rw [List.length_set, List.length_set, hl]; exact hk), List.getElem?_eq_none (by rw [fE_len, Nat.mul_one]; exact hk)]
theorem at_set {w : World} {x : En} {p : Nat} (h : w.heap[x.g]? = some (.cells (aE x p) 75 (0, 0))) (k : Nat) : (w.setCell ⟨x.g, 1, none⟩ (.int .i64 (k : Int))).heap[x.g]? = some (.cells (aE x k) 75 (0, 0)) := blk_set h 1 _
/-- Between the two halves of Swap: the row is changed, the entries not yet. -/
structure Hm (w : World) (b B : Nat) (f m : Value) (nx : Int) (v : Value) (n : Nat) (e : Nat → En) (i j : Nat) : Prop where
  blk : w.heap[b]? = some (.cells (aA v f m nx) 63 (0, 0))
  row : RowQ w B 73 1 v n (fE (swp e i j) n)
  ent : ∀ k, k < n → w.heap[(e k).g]? = some (.cells (aE (e k) k) 75 (0, 0))
  sz : B ≤ w.heap.size
section
variable {w w' : World} {b B : Nat} {f m v : Value} {nx : Int} {n i j : Nat} {e : Nat → En}
theorem Hp.far_row (h : Hp w b B f m nx v n e) {g o c n' : Nat} (hv : v = .slice (some ⟨g, o, none⟩) n' c) (hn : 0 < n) : B ≤ g ∧ b ≠ g ∧ (∀ k, k < n → (e k).g ≠ g) ∧ ∃ cur, w.heap[g]? = some (.cells cur 73 (0, 0)) := by
  obtain ⟨g', o', cap, cur, hv', q1, q2, q3, q4, q5⟩ := h.row.lies hn
  rw [hv] at hv'
  injection hv' with e1 e2 e3
  injection e1 with e1
  injection e1 with e4 e5
  subst e4
  refine ⟨q1, by have := h.lt; omega, fun k hk hc => ?_, cur, q2⟩
  have h1 := h.ent k hk
  rw [hc, q2] at h1
  injection h1 with h1
  injection h1 with _ h1
  exact absurd h1 (by decide)
theorem Hp.mid {g o c : Nat} (h : Hp w b B f m nx (.slice (some ⟨g, o, none⟩) n c) n e) (hi : i < n) (hj : j < n) :
    Hm ((w.setCell ⟨g, o + i, none⟩ (.pointer (some ⟨(e j).g, 0, none⟩))).setCell ⟨g, o + j, none⟩ (.pointer (some ⟨(e i).g, 0, none⟩))) b B f m nx (.slice (some ⟨g, o, none⟩) n c) n e i j := by
  obtain ⟨h1, h2, h3, cur, h4⟩ := h.far_row rfl (by omega)
  refine ⟨?_, ?_, fun k hk => ?_, ?_⟩
  · exact (Below.heap_setCell _ _ _ _ h2).trans ((Below.heap_setCell _ _ _ _ h2).trans h.blk)
  · rw [← fE_set e hi hj]
    exact (h.row.put hi _).put hj _
  · exact (Below.heap_setCell _ _ _ _ (h3 k hk)).trans ((Below.heap_setCell _ _ _ _ (h3 k hk)).trans (h.ent k hk))
  · have := h.sz; simpa [World.setCell] using this
theorem Hm.below (h : Hm w b B f m nx v n e i j) (k : Below w.heap.size w w') : Hm w' b B f m nx v n e i j :=
  ⟨obj_below k h.blk, h.row.below k, fun l hl => obj_below k (h.ent l hl), Nat.le_trans h.sz k.size⟩
theorem Hm.placeAt {g o c : Nat} (h : Hm w b B f m nx (.slice (some ⟨g, o, none⟩) n c) n e i j) {k : Nat} (hk : k < n) : w.cell? ⟨g, o + k, none⟩ = some (.pointer (some ⟨(swp e i j k).g, 0, none⟩)) := by
  obtain ⟨g', o', cap, cur, hv, q1, q2, q3, q4, q5⟩ := h.row.lies (by omega)
  injection hv with e1 e2 e3
  injection e1 with e1
  injection e1 with e4 e5
  subst e4 e5
  simp only [World.cell?, q2]
  exact q5 _ _ (fE_get _ hk)
theorem Hm.cell0 (h : Hm w b B f m nx v n e i j) : w.cell? ⟨b, 0, none⟩ = some v := by
  have := h.blk
  simp only [World.cell?, this]; rfl
theorem Hm.atc (h : Hm w b B f m nx v n e i j) {k : Nat} (hk : k < n) : w.cell? ⟨(e k).g, 1, none⟩ = some (.int .i64 (k : Int)) ∧ w.frozen? ⟨(e k).g, 1, none⟩ = false := by
  have := h.ent k hk
  constructor
  · simp only [World.cell?, this]; rfl
  · simp [World.frozen?, this]
/-- Both entries know their places. -/
theorem Hm.done (h : Hm w b B f m nx v n e i j) (h0 : Hp w' b B f m nx v n e) (hi : i < n) (hj : j < n) : Hp ((w.setCell ⟨(e j).g, 1, none⟩ (.int .i64 (i : Int))).setCell ⟨(e i).g, 1, none⟩ (.int .i64 (j : Int))) b B f m nx v n (swp e i j) := by
  have hne : ∀ k, k < n → b ≠ (e k).g := fun k hk hc => by
    have h1 := h.ent k hk
    rw [← hc, h.blk] at h1
    injection h1 with h1
    injection h1 with _ h1
    exact absurd h1 (by decide)
  have hrow : ∀ k, k < n → ∀ (w1 : World), RowQ w1 B 73 1 v n (fE (swp e i j) n) → (∃ p, w1.heap[(e k).g]? = some (.cells (aE (e k) p) 75 (0, 0))) → ∀ u, RowQ (w1.setCell ⟨(e k).g, 1, none⟩ u) B 73 1 v n (fE (swp e i j) n) := by
    intro k hk w1 hr ⟨p, hp⟩ u
    refine hr.of (fun g cur _ hg => Below.heap_setCell _ _ _ _ (fun hc => ?_))
    rw [hc] at hg
    simp only at hg
    rw [hp] at hg
    injection hg with hg
    injection hg with _ hg
    exact absurd hg (by decide)
  have s1 := at_set (h.ent j hj) i
  refine ⟨?_, ?_, fun k hk => ?_, fun k l hk hl hkl => ?_, h0.lt, ?_, h0.n6⟩
  · exact (Below.heap_setCell _ _ _ _ (hne i hi)).trans ((Below.heap_setCell _ _ _ _ (hne j hj)).trans h.blk)
  · refine hrow i hi _ (hrow j hj _ h.row ⟨_, h.ent j hj⟩ _) ?_ _
    by_cases hij : i = j
    · subst hij; exact ⟨_, s1⟩
    · exact ⟨_, (Below.heap_setCell _ _ _ _ (fun hc => hij (h0.inj i j hi hj hc))).trans (h.ent i hi)⟩
  · by_cases hij : i = j
    · subst hij
      have e1 : swp e i i k = e k := by
        by_cases hki : k = i
        · subst hki; rw [swp_l]
        · rw [swp_o _ hki hki]
      rw [e1]
      by_cases hki : k = i
      · subst hki; exact at_set s1 k
      · have hg : (e k).g ≠ (e i).g := fun hc => hki (h0.inj k i hk hi hc)
        exact (Below.heap_setCell _ _ _ _ hg).trans ((Below.heap_setCell _ _ _ _ hg).trans (h.ent k hk))
    · have hg : (e j).g ≠ (e i).g := fun hc => hij (h0.inj i j hi hj hc.symm)
      by_cases hki : k = i
      · subst hki
        rw [swp_l]
        exact (Below.heap_setCell _ _ _ _ hg).trans s1
      · by_cases hkj : k = j
        · subst hkj
          rw [swp_r]
          exact at_set ((Below.heap_setCell _ _ _ _ (Ne.symm hg)).trans (h.ent i hi)) k
        · rw [swp_o _ hki hkj]
          have g1 : (e k).g ≠ (e i).g := fun hc => hki (h0.inj k i hk hi hc)
          have g2 : (e k).g ≠ (e j).g := fun hc => hkj (h0.inj k j hk hj hc)
          exact (Below.heap_setCell _ _ _ _ g1).trans ((Below.heap_setCell _ _ _ _ g2).trans (h.ent k hk))
  · obtain ⟨p, hp, e1, _, d1⟩ := swp_pos hi hj e k hk
    obtain ⟨q, hq, e2, _, d2⟩ := swp_pos hi hj e l hl
    rw [e1, e2] at hkl
    have := h0.inj p q hp hq hkl
    rw [d1, d2] at this
    split at this <;> split at this <;> (try split at this) <;> (try split at this) <;> omega
  · have := h.sz; simpa [World.setCell] using this
end
set_option maxRecDepth 100000 in
set_option maxHeartbeats 4000000 in
theorem Swap_calls {w : World} {b mb B : Nat} {f m v : Value} {nx : Int} {n : Nat} {e : Nat → En} (h : Hp w b B f m nx v n e) (hB : ∀ k, k < n → B ≤ (e k).g) {i j : Nat} (hi : i < n) (hj : j < n) : Calls Try.prog 69 #[.pointer (some ⟨b, 0, none⟩), .int .i64 (i : Int), .int .i64 (j : Int)] w fun r w' => r = .returned (.tuple #[]) ∧ Hp w' b B f m nx v n (swp e i j) ∧ Ag b mb B w w' := by
  obtain ⟨A, c, rfl, hc⟩ := h.form
  obtain ⟨gT, oT, rfl, _⟩ := h.place hi
  have HI := Aside0.mk hi
  have HJ := Aside0.mk hj
  have HEB := Aside0.mk hB
  have b1 : (0 : Int) ≤ (i : Int) := Int.natCast_nonneg i
  have b2 : (i : Int) < (n : Int) := Int.ofNat_lt.2 hi
  have b3 : (0 : Int) ≤ (j : Int) := Int.natCast_nonneg j
  have b4 : (j : Int) < (n : Int) := Int.ofNat_lt.2 hj
  have ht : ((i : Int)).toNat = i := Int.toNat_natCast i
  have ht2 : ((j : Int)).toNat = j := Int.toNat_natCast j
  have HA := Aside0.mk h
  clear h hi hj hB
  go_enter Try.func69, Try.ntmps69
  go_upto_region 0 with fail
  refine startN (S := fun w' => Hp w' b B f m nx (.slice (some ⟨gT, oT, none⟩) n c) n e) (N := [3, 8, 13, 16, 20, 23]) (by kernel_rfl) ?_
  have hHeld : (fun w' => Hp w' b B f m nx (.slice (some ⟨gT, oT, none⟩) n c) n e) w.drew := HA.out.below (Below.refl _ _).drew
  refine takeF (i := 0) (v := _) 6 rfl rfl (by kernel_rfl) (by kernel_rfl) (by kernel_rfl) (fun _ _ _ h => h) (Or.inl ⟨by rfl, fun w' _ => by first | (go_simp; done) | (go_simp; with_reducible rfl) | (go_simp; rfl)⟩) ?_
  try simp only [Act.put, List.setIfInBounds_toArray, List.set_cons_zero, List.set_cons_succ]
  refine takeF (i := 1) (v := _) 7 rfl rfl (by kernel_rfl) (by kernel_rfl) (by kernel_rfl) (fun _ _ _ h => h) (Or.inl ⟨by rfl, fun w' _ => by first | (go_simp; done) | (go_simp; with_reducible rfl) | (go_simp; rfl)⟩) ?_
  try simp only [Act.put, List.setIfInBounds_toArray, List.set_cons_zero, List.set_cons_succ]
  refine takeF (i := 2) (v := _) 8 rfl rfl (by kernel_rfl) (by kernel_rfl) (by kernel_rfl) (fun _ _ _ h => h) (Or.inl ⟨by rfl, fun w' _ => by first | (go_simp; done) | (go_simp; with_reducible rfl) | (go_simp; rfl)⟩) ?_
  try simp only [Act.put, List.setIfInBounds_toArray, List.set_cons_zero, List.set_cons_succ]
  refine takeN (i := 3) (v := _) 9 rfl rfl (by kernel_rfl) (by kernel_rfl) (by kernel_rfl) (fun _ _ _ h => h) (by kernel_rfl) (Or.inl ⟨by rfl, fun w' hW => by have hq0 := hW.cells.1; have hq1 := hW.placeAt HI.out; have hq2 := hW.placeAt HJ.out; first | (go_simp; done) | (go_simp; with_reducible rfl) | (go_simp; rfl)⟩) hHeld ?_
  try simp only [Act.put, List.setIfInBounds_toArray, List.set_cons_zero, List.set_cons_succ]
  refine takeF (i := 4) (v := _) 10 rfl rfl (by kernel_rfl) (by kernel_rfl) (by kernel_rfl) (fun _ _ _ h => h) (Or.inl ⟨by rfl, fun w' _ => by first | (go_simp; done) | (go_simp; with_reducible rfl) | (go_simp; rfl)⟩) ?_
  try simp only [Act.put, List.setIfInBounds_toArray, List.set_cons_zero, List.set_cons_succ]
  refine takeF (i := 5) (v := _) 11 rfl rfl (by kernel_rfl) (by kernel_rfl) (by kernel_rfl) (fun _ _ _ h => h) (Or.inl ⟨by rfl, fun w' _ => by first | (go_simp; done) | (go_simp; with_reducible rfl) | (go_simp; rfl)⟩) ?_
  try simp only [Act.put, List.setIfInBounds_toArray, List.set_cons_zero, List.set_cons_succ]
  refine takeF (i := 6) (v := _) 12 rfl rfl (by kernel_rfl) (by kernel_rfl) (by kernel_rfl) (fun _ _ _ h => h) (Or.inl ⟨by rfl, fun w' _ => by first | (go_simp; done) | (go_simp; with_reducible rfl) | (go_simp; rfl)⟩) ?_
  try simp only [Act.put, List.setIfInBounds_toArray, List.set_cons_zero, List.set_cons_succ]
  refine takeF (i := 7) (v := _) 13 rfl rfl (by kernel_rfl) (by kernel_rfl) (by kernel_rfl) (fun _ _ _ h => h) (Or.inl ⟨by rfl, fun w' _ => by first | (go_simp; done) | (go_simp; with_reducible rfl) | (go_simp; rfl)⟩) ?_
  try simp only [Act.put, List.setIfInBounds_toArray, List.set_cons_zero, List.set_cons_succ]
  refine takeN (i := 8) (v := _) 14 rfl rfl (by kernel_rfl) (by kernel_rfl) (by kernel_rfl) (fun _ _ _ h => h) (by kernel_rfl) (Or.inl ⟨by rfl, fun w' hW => by have hq0 := hW.cells.1; have hq1 := hW.placeAt HI.out; have hq2 := hW.placeAt HJ.out; first | (go_simp; done) | (go_simp; with_reducible rfl) | (go_simp; rfl)⟩) hHeld ?_
  try simp only [Act.put, List.setIfInBounds_toArray, List.set_cons_zero, List.set_cons_succ]
  refine takeF (i := 9) (v := _) 15 rfl rfl (by kernel_rfl) (by kernel_rfl) (by kernel_rfl) (fun _ _ _ h => h) (Or.inl ⟨by rfl, fun w' _ => by first | (go_simp; done) | (go_simp; with_reducible rfl) | (go_simp; rfl)⟩) ?_
  try simp only [Act.put, List.setIfInBounds_toArray, List.set_cons_zero, List.set_cons_succ]
  refine takeF (i := 10) (v := _) 16 rfl rfl (by kernel_rfl) (by kernel_rfl) (by kernel_rfl) (fun _ _ _ h => h) (Or.inl ⟨by rfl, fun w' _ => by first | (go_simp; done) | (go_simp; with_reducible rfl) | (go_simp; rfl)⟩) ?_
  try simp only [Act.put, List.setIfInBounds_toArray, List.set_cons_zero, List.set_cons_succ]
  refine takeF (i := 11) (v := _) 17 rfl rfl (by kernel_rfl) (by kernel_rfl) (by kernel_rfl) (fun _ _ _ h => h) (Or.inl ⟨by rfl, fun w' _ => by first | (go_simp; done) | (go_simp; with_reducible rfl) | (go_simp; rfl)⟩) ?_
  try simp only [Act.put, List.setIfInBounds_toArray, List.set_cons_zero, List.set_cons_succ]
  refine takeF (i := 12) (v := _) 18 rfl rfl (by kernel_rfl) (by kernel_rfl) (by kernel_rfl) (fun _ _ _ h => h) (Or.inl ⟨by rfl, fun w' _ => by first | (go_simp; done) | (go_simp; with_reducible rfl) | (go_simp; rfl)⟩) ?_
  try simp only [Act.put, List.setIfInBounds_toArray, List.set_cons_zero, List.set_cons_succ]
  refine takeN (i := 13) (v := _) 19 rfl rfl (by kernel_rfl) (by kernel_rfl) (by kernel_rfl) (fun _ _ _ h => h) (by kernel_rfl) (Or.inl ⟨by rfl, fun w' hW => by have hq0 := hW.cells.1; have hq1 := hW.placeAt HI.out; have hq2 := hW.placeAt HJ.out; first | (go_simp; done) | (go_simp; with_reducible rfl) | (go_simp; rfl)⟩) hHeld ?_
  try simp only [Act.put, List.setIfInBounds_toArray, List.set_cons_zero, List.set_cons_succ]
  refine takeF (i := 14) (v := _) 20 rfl rfl (by kernel_rfl) (by kernel_rfl) (by kernel_rfl) (fun _ _ _ h => h) (Or.inl ⟨by rfl, fun w' _ => by first | (go_simp; done) | (go_simp; with_reducible rfl) | (go_simp; rfl)⟩) ?_
  try simp only [Act.put, List.setIfInBounds_toArray, List.set_cons_zero, List.set_cons_succ]
  refine takeF (i := 15) (v := _) 21 rfl rfl (by kernel_rfl) (by kernel_rfl) (by kernel_rfl) (fun _ _ _ h => h) (Or.inl ⟨by rfl, fun w' _ => by first | (go_simp; done) | (go_simp; with_reducible rfl) | (go_simp; rfl)⟩) ?_
  try simp only [Act.put, List.setIfInBounds_toArray, List.set_cons_zero, List.set_cons_succ]
  refine takeN (i := 16) (v := _) 22 rfl rfl (by kernel_rfl) (by kernel_rfl) (by kernel_rfl) (fun _ _ _ h => h) (by kernel_rfl) (Or.inl ⟨by rfl, fun w' hW => by have hq0 := hW.cells.1; have hq1 := hW.placeAt HI.out; have hq2 := hW.placeAt HJ.out; first | (go_simp; done) | (go_simp; with_reducible rfl) | (go_simp; rfl)⟩) hHeld ?_
  try simp only [Act.put, List.setIfInBounds_toArray, List.set_cons_zero, List.set_cons_succ]
  refine takeF (i := 17) (v := _) 23 rfl rfl (by kernel_rfl) (by kernel_rfl) (by kernel_rfl) (fun _ _ _ h => h) (Or.inl ⟨by rfl, fun w' _ => by first | (go_simp; done) | (go_simp; with_reducible rfl) | (go_simp; rfl)⟩) ?_
  try simp only [Act.put, List.setIfInBounds_toArray, List.set_cons_zero, List.set_cons_succ]
  refine takeF (i := 18) (v := _) 24 rfl rfl (by kernel_rfl) (by kernel_rfl) (by kernel_rfl) (fun _ _ _ h => h) (Or.inl ⟨by rfl, fun w' _ => by first | (go_simp; done) | (go_simp; with_reducible rfl) | (go_simp; rfl)⟩) ?_
  try simp only [Act.put, List.setIfInBounds_toArray, List.set_cons_zero, List.set_cons_succ]
  refine takeF (i := 19) (v := _) 25 rfl rfl (by kernel_rfl) (by kernel_rfl) (by kernel_rfl) (fun _ _ _ h => h) (Or.inl ⟨by rfl, fun w' _ => by first | (go_simp; done) | (go_simp; with_reducible rfl) | (go_simp; rfl)⟩) ?_
  try simp only [Act.put, List.setIfInBounds_toArray, List.set_cons_zero, List.set_cons_succ]
  refine takeN (i := 20) (v := _) 26 rfl rfl (by kernel_rfl) (by kernel_rfl) (by kernel_rfl) (fun _ _ _ h => h) (by kernel_rfl) (Or.inl ⟨by rfl, fun w' hW => by have hq0 := hW.cells.1; have hq1 := hW.placeAt HI.out; have hq2 := hW.placeAt HJ.out; first | (go_simp; done) | (go_simp; with_reducible rfl) | (go_simp; rfl)⟩) hHeld ?_
  try simp only [Act.put, List.setIfInBounds_toArray, List.set_cons_zero, List.set_cons_succ]
  refine takeF (i := 21) (v := _) 27 rfl rfl (by kernel_rfl) (by kernel_rfl) (by kernel_rfl) (fun _ _ _ h => h) (Or.inl ⟨by rfl, fun w' _ => by first | (go_simp; done) | (go_simp; with_reducible rfl) | (go_simp; rfl)⟩) ?_
  try simp only [Act.put, List.setIfInBounds_toArray, List.set_cons_zero, List.set_cons_succ]
  refine takeF (i := 22) (v := _) 28 rfl rfl (by kernel_rfl) (by kernel_rfl) (by kernel_rfl) (fun _ _ _ h => h) (Or.inl ⟨by rfl, fun w' _ => by first | (go_simp; done) | (go_simp; with_reducible rfl) | (go_simp; rfl)⟩) ?_
  try simp only [Act.put, List.setIfInBounds_toArray, List.set_cons_zero, List.set_cons_succ]
  refine takeN (i := 23) (v := _) 29 rfl rfl (by kernel_rfl) (by kernel_rfl) (by kernel_rfl) (fun _ _ _ h => h) (by kernel_rfl) (Or.inl ⟨by rfl, fun w' hW => by have hq0 := hW.cells.1; have hq1 := hW.placeAt HI.out; have hq2 := hW.placeAt HJ.out; first | (go_simp; done) | (go_simp; with_reducible rfl) | (go_simp; rfl)⟩) hHeld ?_
  try simp only [Act.put, List.setIfInBounds_toArray, List.set_cons_zero, List.set_cons_succ]
  refine takeF (i := 24) (v := _) 30 rfl rfl (by kernel_rfl) (by kernel_rfl) (by kernel_rfl) (fun _ _ _ h => h) (Or.inl ⟨by rfl, fun w' _ => by first | (go_simp; done) | (go_simp; with_reducible rfl) | (go_simp; rfl)⟩) ?_
  try simp only [Act.put, List.setIfInBounds_toArray, List.set_cons_zero, List.set_cons_succ]
  have HB := Aside0.mk (HA.out.below (Below.refl _ _).drew)
  have HBV : Aside0 (Below w.heap.size w w.drew) := ⟨(Below.refl _ _).drew⟩
  clear hHeld
  generalize w.drew = w1 at HB HBV ⊢
  obtain ⟨y1, y2, y3, cur, y4⟩ := HB.out.far_row rfl (Nat.lt_of_le_of_lt (Nat.zero_le _) HI.out)
  have HG := Aside0.mk (And.intro y1 y4)
  have p0 := HB.out.placeAt HI.out
  have f0 : w1.frozen? ⟨gT, oT + i, none⟩ = false := by simp [World.frozen?, y4]
  clear y1 y2 y3
  refine readyN (rs := [25]) (by kernel_rfl) (by simp) ?_
  refine eachN.last rfl (by kernel_rfl) (fun K hK => ?_)
  go_simp
  try change K _ (w1.setCell ⟨gT, oT + i, none⟩ (.pointer (some ⟨(e j).g, 0, none⟩)))
  refine hK.out _ _ ?_
  clear hK K
  try simp only [Act.put, List.setIfInBounds_toArray, List.set_cons_zero, List.set_cons_succ]
  refine takeF (i := 26) (v := _) 31 rfl rfl (by kernel_rfl) (by kernel_rfl) (by kernel_rfl) (fun _ _ _ h => h) (Or.inl ⟨by rfl, fun w' _ => by first | (go_simp; done) | (go_simp; with_reducible rfl) | (go_simp; rfl)⟩) ?_
  try simp only [Act.put, List.setIfInBounds_toArray, List.set_cons_zero, List.set_cons_succ]
  have y5 := blk_set y4 (oT + i) (.pointer (some ⟨(e j).g, 0, none⟩))
  have HAG : Aside0 (Ag b mb B w (w1.setCell ⟨gT, oT + i, none⟩ (.pointer (some ⟨(e j).g, 0, none⟩)))) := ⟨(Ag.of_below HBV.out).set y4 HG.out.1 (Or.inl rfl) _⟩
  have p1 : ∃ u, (w1.setCell ⟨gT, oT + i, none⟩ (.pointer (some ⟨(e j).g, 0, none⟩))).cell? ⟨gT, oT + j, none⟩ = some u := by
    have hr := (HB.out.row.put HI.out (.pointer (some ⟨(e j).g, 0, none⟩)))
    obtain ⟨ad, e1, e2⟩ := hr.src j _ (List.getElem?_eq_getElem (by rw [List.length_set, fE_len, Nat.mul_one]; exact HJ.out))
    cases e1
    rw [Addr.add_lit] at e2
    exact ⟨_, e2⟩
  obtain ⟨u1, p1⟩ := p1
  have f1 : (w1.setCell ⟨gT, oT + i, none⟩ (.pointer (some ⟨(e j).g, 0, none⟩))).frozen? ⟨gT, oT + j, none⟩ = false := by simp [World.frozen?, y5]
  have HM := Aside0.mk (HB.out.mid HI.out HJ.out)
  have HAG2 : Aside0 (Ag b mb B w ((w1.setCell ⟨gT, oT + i, none⟩ (.pointer (some ⟨(e j).g, 0, none⟩))).setCell ⟨gT, oT + j, none⟩ (.pointer (some ⟨(e i).g, 0, none⟩)))) := ⟨HAG.out.set y5 HG.out.1 (Or.inl rfl) _⟩
  clear p0 f0 y4 y5 HAG
  generalize w1.setCell ⟨gT, oT + i, none⟩ (.pointer (some ⟨(e j).g, 0, none⟩)) = w2 at p1 f1 HM HAG2 ⊢
  refine readyN (rs := [27]) (by kernel_rfl) (by simp) ?_
  refine eachN.last rfl (by kernel_rfl) (fun K hK => ?_)
  go_simp
  try change K _ (w2.setCell ⟨gT, oT + j, none⟩ (.pointer (some ⟨(e i).g, 0, none⟩)))
  clear p1 f1
  generalize w2.setCell ⟨gT, oT + j, none⟩ (.pointer (some ⟨(e i).g, 0, none⟩)) = w3 at HM HAG2 ⊢
  refine hK.out _ _ ?_
  clear hK K
  try simp only [Act.put, List.setIfInBounds_toArray, List.set_cons_zero, List.set_cons_succ]
  refine doneN (by kernel_rfl) ?_ _
  go_upto_region 1 with fail
  refine startN (S := fun w' => w'.cell? ⟨b, 0, none⟩ = some (.slice (some ⟨gT, oT, none⟩) n c) ∧ w'.cell? ⟨gT, oT + i, none⟩ = some (.pointer (some ⟨(e j).g, 0, none⟩)) ∧ w'.cell? ⟨gT, oT + j, none⟩ = some (.pointer (some ⟨(e i).g, 0, none⟩))) (N := [3, 6, 10, 13]) (by kernel_rfl) ?_
  have hHeld : (fun w' => w'.cell? ⟨b, 0, none⟩ = some (.slice (some ⟨gT, oT, none⟩) n c) ∧ w'.cell? ⟨gT, oT + i, none⟩ = some (.pointer (some ⟨(e j).g, 0, none⟩)) ∧ w'.cell? ⟨gT, oT + j, none⟩ = some (.pointer (some ⟨(e i).g, 0, none⟩))) w3.drew := ⟨HM.out.cell0, by have := HM.out.placeAt HI.out; rwa [swp_l] at this, by have := HM.out.placeAt HJ.out; rwa [swp_r] at this⟩
  refine takeF (i := 0) (v := _) 32 rfl rfl (by kernel_rfl) (by kernel_rfl) (by kernel_rfl) (fun _ _ _ h => h) (Or.inl ⟨by rfl, fun w' _ => by first | (go_simp; done) | (go_simp; with_reducible rfl) | (go_simp; rfl)⟩) ?_
  try simp only [Act.put, List.setIfInBounds_toArray, List.set_cons_zero, List.set_cons_succ]
  refine takeF (i := 1) (v := _) 33 rfl rfl (by kernel_rfl) (by kernel_rfl) (by kernel_rfl) (fun _ _ _ h => h) (Or.inl ⟨by rfl, fun w' _ => by first | (go_simp; done) | (go_simp; with_reducible rfl) | (go_simp; rfl)⟩) ?_
  try simp only [Act.put, List.setIfInBounds_toArray, List.set_cons_zero, List.set_cons_succ]
  refine takeF (i := 2) (v := _) 34 rfl rfl (by kernel_rfl) (by kernel_rfl) (by kernel_rfl) (fun _ _ _ h => h) (Or.inl ⟨by rfl, fun w' _ => by first | (go_simp; done) | (go_simp; with_reducible rfl) | (go_simp; rfl)⟩) ?_
  try simp only [Act.put, List.setIfInBounds_toArray, List.set_cons_zero, List.set_cons_succ]
  refine takeN (i := 3) (v := _) 35 rfl rfl (by kernel_rfl) (by kernel_rfl) (by kernel_rfl) (fun _ _ _ h => h) (by kernel_rfl) (Or.inl ⟨by rfl, fun w' hW => by have hq0 := hW.1; have hq1 := hW.2.1; have hq2 := hW.2.2; first | (go_simp; done) | (go_simp; with_reducible rfl) | (go_simp; rfl)⟩) hHeld ?_
  try simp only [Act.put, List.setIfInBounds_toArray, List.set_cons_zero, List.set_cons_succ]
  refine takeF (i := 4) (v := _) 36 rfl rfl (by kernel_rfl) (by kernel_rfl) (by kernel_rfl) (fun _ _ _ h => h) (Or.inl ⟨by rfl, fun w' _ => by first | (go_simp; done) | (go_simp; with_reducible rfl) | (go_simp; rfl)⟩) ?_
  try simp only [Act.put, List.setIfInBounds_toArray, List.set_cons_zero, List.set_cons_succ]
  refine takeF (i := 5) (v := _) 37 rfl rfl (by kernel_rfl) (by kernel_rfl) (by kernel_rfl) (fun _ _ _ h => h) (Or.inl ⟨by rfl, fun w' _ => by first | (go_simp; done) | (go_simp; with_reducible rfl) | (go_simp; rfl)⟩) ?_
  try simp only [Act.put, List.setIfInBounds_toArray, List.set_cons_zero, List.set_cons_succ]
  refine takeN (i := 6) (v := _) 38 rfl rfl (by kernel_rfl) (by kernel_rfl) (by kernel_rfl) (fun _ _ _ h => h) (by kernel_rfl) (Or.inl ⟨by rfl, fun w' hW => by have hq0 := hW.1; have hq1 := hW.2.1; have hq2 := hW.2.2; first | (go_simp; done) | (go_simp; with_reducible rfl) | (go_simp; rfl)⟩) hHeld ?_
  try simp only [Act.put, List.setIfInBounds_toArray, List.set_cons_zero, List.set_cons_succ]
  refine takeF (i := 7) (v := _) 39 rfl rfl (by kernel_rfl) (by kernel_rfl) (by kernel_rfl) (fun _ _ _ h => h) (Or.inl ⟨by rfl, fun w' _ => by first | (go_simp; done) | (go_simp; with_reducible rfl) | (go_simp; rfl)⟩) ?_
  try simp only [Act.put, List.setIfInBounds_toArray, List.set_cons_zero, List.set_cons_succ]
  refine takeF (i := 8) (v := _) 40 rfl rfl (by kernel_rfl) (by kernel_rfl) (by kernel_rfl) (fun _ _ _ h => h) (Or.inl ⟨by rfl, fun w' _ => by first | (go_simp; done) | (go_simp; with_reducible rfl) | (go_simp; rfl)⟩) ?_
  try simp only [Act.put, List.setIfInBounds_toArray, List.set_cons_zero, List.set_cons_succ]
  refine takeF (i := 9) (v := _) 41 rfl rfl (by kernel_rfl) (by kernel_rfl) (by kernel_rfl) (fun _ _ _ h => h) (Or.inl ⟨by rfl, fun w' _ => by first | (go_simp; done) | (go_simp; with_reducible rfl) | (go_simp; rfl)⟩) ?_
  try simp only [Act.put, List.setIfInBounds_toArray, List.set_cons_zero, List.set_cons_succ]
  refine takeN (i := 10) (v := _) 42 rfl rfl (by kernel_rfl) (by kernel_rfl) (by kernel_rfl) (fun _ _ _ h => h) (by kernel_rfl) (Or.inl ⟨by rfl, fun w' hW => by have hq0 := hW.1; have hq1 := hW.2.1; have hq2 := hW.2.2; first | (go_simp; done) | (go_simp; with_reducible rfl) | (go_simp; rfl)⟩) hHeld ?_
  try simp only [Act.put, List.setIfInBounds_toArray, List.set_cons_zero, List.set_cons_succ]
  refine takeF (i := 11) (v := _) 43 rfl rfl (by kernel_rfl) (by kernel_rfl) (by kernel_rfl) (fun _ _ _ h => h) (Or.inl ⟨by rfl, fun w' _ => by first | (go_simp; done) | (go_simp; with_reducible rfl) | (go_simp; rfl)⟩) ?_
  try simp only [Act.put, List.setIfInBounds_toArray, List.set_cons_zero, List.set_cons_succ]
  refine takeF (i := 12) (v := _) 44 rfl rfl (by kernel_rfl) (by kernel_rfl) (by kernel_rfl) (fun _ _ _ h => h) (Or.inl ⟨by rfl, fun w' _ => by first | (go_simp; done) | (go_simp; with_reducible rfl) | (go_simp; rfl)⟩) ?_
  try simp only [Act.put, List.setIfInBounds_toArray, List.set_cons_zero, List.set_cons_succ]
  refine takeN (i := 13) (v := _) 45 rfl rfl (by kernel_rfl) (by kernel_rfl) (by kernel_rfl) (fun _ _ _ h => h) (by kernel_rfl) (Or.inl ⟨by rfl, fun w' hW => by have hq0 := hW.1; have hq1 := hW.2.1; have hq2 := hW.2.2; first | (go_simp; done) | (go_simp; with_reducible rfl) | (go_simp; rfl)⟩) hHeld ?_
  try simp only [Act.put, List.setIfInBounds_toArray, List.set_cons_zero, List.set_cons_succ]
  refine takeF (i := 14) (v := _) 46 rfl rfl (by kernel_rfl) (by kernel_rfl) (by kernel_rfl) (fun _ _ _ h => h) (Or.inl ⟨by rfl, fun w' _ => by first | (go_simp; done) | (go_simp; with_reducible rfl) | (go_simp; rfl)⟩) ?_
  try simp only [Act.put, List.setIfInBounds_toArray, List.set_cons_zero, List.set_cons_succ]
  refine takeF (i := 15) (v := _) 47 rfl rfl (by kernel_rfl) (by kernel_rfl) (by kernel_rfl) (fun _ _ _ h => h) (Or.inl ⟨by rfl, fun w' _ => by first | (go_simp; done) | (go_simp; with_reducible rfl) | (go_simp; rfl)⟩) ?_
  try simp only [Act.put, List.setIfInBounds_toArray, List.set_cons_zero, List.set_cons_succ]
  refine takeF (i := 16) (v := _) 48 rfl rfl (by kernel_rfl) (by kernel_rfl) (by kernel_rfl) (fun _ _ _ h => h) (Or.inl ⟨by rfl, fun w' _ => by first | (go_simp; done) | (go_simp; with_reducible rfl) | (go_simp; rfl)⟩) ?_
  try simp only [Act.put, List.setIfInBounds_toArray, List.set_cons_zero, List.set_cons_succ]
  refine takeF (i := 17) (v := _) 49 rfl rfl (by kernel_rfl) (by kernel_rfl) (by kernel_rfl) (fun _ _ _ h => h) (Or.inl ⟨by rfl, fun w' _ => by first | (go_simp; done) | (go_simp; with_reducible rfl) | (go_simp; rfl)⟩) ?_
  try simp only [Act.put, List.setIfInBounds_toArray, List.set_cons_zero, List.set_cons_succ]
  have HM1 := Aside0.mk (HM.out.below (Below.refl _ _).drew)
  have HAG3 : Aside0 (Ag b mb B w w3.drew) := ⟨HAG2.out.trans (Ag.of_below (Below.refl _ _).drew)⟩
  clear hHeld HM HAG2
  generalize w3.drew = w4 at HM1 HAG3 ⊢
  obtain ⟨a0, a1⟩ := HM1.out.atc HJ.out
  refine readyN (rs := [18]) (by kernel_rfl) (by simp) ?_
  refine eachN.last rfl (by kernel_rfl) (fun K hK => ?_)
  go_simp
  try change K _ (w4.setCell ⟨(e j).g, 1, none⟩ (.int .i64 (i : Int)))
  clear a0 a1
  refine hK.out _ _ ?_
  clear hK K
  try simp only [Act.put, List.setIfInBounds_toArray, List.set_cons_zero, List.set_cons_succ]
  refine takeF (i := 19) (v := _) 50 rfl rfl (by kernel_rfl) (by kernel_rfl) (by kernel_rfl) (fun _ _ _ h => h) (Or.inl ⟨by rfl, fun w' _ => by first | (go_simp; done) | (go_simp; with_reducible rfl) | (go_simp; rfl)⟩) ?_
  try simp only [Act.put, List.setIfInBounds_toArray, List.set_cons_zero, List.set_cons_succ]
  refine takeF (i := 20) (v := _) 51 rfl rfl (by kernel_rfl) (by kernel_rfl) (by kernel_rfl) (fun _ _ _ h => h) (Or.inl ⟨by rfl, fun w' _ => by first | (go_simp; done) | (go_simp; with_reducible rfl) | (go_simp; rfl)⟩) ?_
  try simp only [Act.put, List.setIfInBounds_toArray, List.set_cons_zero, List.set_cons_succ]
  have HAG4 : Aside0 (Ag b mb B w (w4.setCell ⟨(e j).g, 1, none⟩ (.int .i64 (i : Int)))) := ⟨HAG3.out.set (HM1.out.ent j HJ.out) (HEB.out j HJ.out) (Or.inr rfl) _⟩
  have a2 : ∃ p, (w4.setCell ⟨(e j).g, 1, none⟩ (.int .i64 (i : Int))).heap[(e i).g]? = some (.cells (aE (e i) p) 75 (0, 0)) := by
    by_cases hij : i = j
    · subst hij; exact ⟨_, at_set (HM1.out.ent i HJ.out) i⟩
    · exact ⟨_, (Below.heap_setCell _ _ _ _ (fun hc => hij (HA.out.inj i j HI.out HJ.out hc))).trans (HM1.out.ent i HI.out)⟩
  obtain ⟨p, a2⟩ := a2
  have HAG5 : Aside0 (Ag b mb B w ((w4.setCell ⟨(e j).g, 1, none⟩ (.int .i64 (i : Int))).setCell ⟨(e i).g, 1, none⟩ (.int .i64 (j : Int)))) := ⟨HAG4.out.set a2 (HEB.out i HI.out) (Or.inr rfl) _⟩
  have HF := Aside0.mk (HM1.out.done HA.out HI.out HJ.out)
  have a0 : (w4.setCell ⟨(e j).g, 1, none⟩ (.int .i64 (i : Int))).cell? ⟨(e i).g, 1, none⟩ = some (.int .i64 (p : Int)) := by simp only [World.cell?, a2]; rfl
  have a1 : (w4.setCell ⟨(e j).g, 1, none⟩ (.int .i64 (i : Int))).frozen? ⟨(e i).g, 1, none⟩ = false := by simp [World.frozen?, a2]
  clear a2
  generalize w4.setCell ⟨(e j).g, 1, none⟩ (.int .i64 (i : Int)) = w5 at a0 a1 HAG5 HF ⊢
  refine readyN (rs := [21]) (by kernel_rfl) (by simp) ?_
  refine eachN.last rfl (by kernel_rfl) (fun K hK => ?_)
  go_simp
  try change K _ (w5.setCell ⟨(e i).g, 1, none⟩ (.int .i64 (j : Int)))
  clear a0 a1
  generalize w5.setCell ⟨(e i).g, 1, none⟩ (.int .i64 (j : Int)) = w6 at HAG5 HF ⊢
  refine hK.out _ _ ?_
  clear hK K
  try simp only [Act.put, List.setIfInBounds_toArray, List.set_cons_zero, List.set_cons_succ]
  refine doneN (by kernel_rfl) ?_ _
  go_wp2
  exact bodyPost_end (results_none rfl _ _ _) rfl ⟨rfl, HF.out, HAG5.out⟩
end Go.Proofs.Ythjppjcmapgkpaa.QAg
