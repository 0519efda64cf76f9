/- Lane: the document's lane: Claim, New, Reset, State. Written by a program of this repo (tools/gen_rlane6.py). -/
import Derived.Test.YtglekbbdbnpohaaMRLn
import Derived.Test.YtglekbbdbnpohaaZ4Ln
namespace Go.Proofs.Ytglekbbdbnpohaa.QLn
open Go.RowKit Go.Proofs.YtglekbbdbnpohaaW.PrintWords Go.Proofs.YtglekbbdbnpohaaW.PrintLast Go.Proofs.YtglekbbdbnpohaaW.PrintMore
set_option linter.unusedVariables false
set_option linter.unusedSimpArgs false
def newMs (r : RS) : Ms := ⟨r.next, 1, false, 0, 0, 0, 0⟩
def claR (r : RS) : RS := { r with L := r.L ++ [newMs r], next := IntKind.u64.wrap (r.next + 1) }
def ClaE (r : RS) (rb B : Nat) (v : Value) (w : World) (e : Ending) (w' : World) : Prop :=
  (r.credit ≤ (r.L.length : Int) ∧ e = .returned (.tuple #[.agg (aTick 0 0), .int .i64 81]) ∧ Rb w rb B r v [] w') ∨ (¬ r.credit ≤ (r.L.length : Int) ∧ e = .returned (.tuple #[.agg (aTick r.next r.epoch), .int .i64 0]) ∧ ∃ v', Rb w rb B (claR r) v' [] w')
/-- The slots of messages. -/
def slM (l : List Ms) : List (Int × Int) := l.map (fun m => (m.n, m.g))
theorem slM_take {l : List Ms} {i : Nat} {m : Ms} (hm : l[i]? = some m) : slM (l.take (i + 1)) = slM (l.take i) ++ [(m.n, m.g)] := by
  unfold slM
  rw [List.take_add_one, hm, List.map_append]
  rfl
theorem slM_len {l : List Ms} {i : Nat} (h : i ≤ l.length) : (slM (l.take i)).length = i := by unfold slM; rw [List.length_map, List.length_take, Nat.min_eq_left h]
/-- What Reset answers, and makes. -/
def RstE (r : RS) (rb B : Nat) (v : Value) (w : World) (e : Ending) (w' : World) : Prop :=
  ((∃ (k : Nat) (m : Ms), r.L[k]? = some m ∧ m.is = 1) ∧ e = .returned (.tuple #[.slice none 0 0, .int .i64 84]) ∧ Rb w rb B r v [] w') ∨
  ((∀ (k : Nat) (m : Ms), r.L[k]? = some m → ¬ m.is = 1) ∧ ∃ u v', e = .returned (.tuple #[u, .int .i64 0]) ∧ RowQ w' w.heap.size 36 2 u (slM r.L).length (fQ (slM r.L)) ∧ Rb w rb B { r with L := [], epoch := IntKind.u64.wrap (r.epoch + 1) } v' [] w')
theorem RowQ.only2 {w w' : World} {B B' : Nat} {e e' : TypeId} {sz : Nat} {v : Value} {n : Nat} {xs : List Value} (h : RowQ w B e sz v n xs) (ho : Only B' e' w w') (hne : e ≠ e') : RowQ w' B e sz v n xs := by
  refine h.of (fun g cur hg hw => ?_)
  rcases ho.block g (Array.getElem?_eq_some_iff.1 hw).1 with h1 | ⟨_, c, h1⟩
  · exact h1
  · rw [hw] at h1
    injection h1 with h1
    injection h1 with _ h1
    exact absurd h1 hne
theorem infoz36 : (Try.prog.info? 36).map (fun i => (i.zero, i.size, i.bytes)) = some (some (.agg #[.int .i64 0, .int .u64 0]), 2, 16) := by kernel_rfl
theorem Far.trans' {w0 w w' : World} {rb : Nat} (h : Far rb rb w0 w) (k : w'.os = w.os ∧ w'.tape = w.tape ∧ w'.output = w.output ∧ w.heap.size ≤ w'.heap.size ∧ ∀ i, i < w.heap.size → i < w0.heap.size → w'.heap[i]? = w.heap[i]?) : Far rb rb w0 w' :=
  ⟨k.1.trans h.os, k.2.1.trans h.tape, k.2.2.1.trans h.output, Nat.le_trans h.size k.2.2.2.1, fun i hi h1 h2 => (k.2.2.2.2 i (Nat.lt_of_lt_of_le hi h.size) hi).trans (h.block i hi h1 h2)⟩
/-- Slots are appended in blocks that are not the lane's. -/
theorem Rb.only36 {w0 w w' : World} {rb B : Nat} {r : RS} {v : Value} (h : Rb w0 rb B r v [] w) (ho : Only w0.heap.size 36 w w') : Rb w0 rb B r v [] w' :=
  ⟨⟨(ho.old h.rl.rb h.hb).trans h.rl.blk, h.rl.row.only2 ho (by decide), h.rl.lt, Nat.le_trans h.rl.sz ho.size, h.rl.len⟩, h.fr.trans' ⟨ho.os, ho.tape, ho.output, ho.size, fun i hi hl => ho.old hi hl⟩, h.hb, fun p hp => by cases hp⟩
/-- How many messages stand so. -/
def cI (k : Int) (l : List Ms) : Nat := (l.filter (fun m => decide (m.is = k))).length
def cO (l : List Ms) : Nat := (l.filter (fun m => !decide (m.is = 1) && (!decide (m.is = 2) && !decide (m.is = 3)))).length
theorem cI_le (k : Int) (l : List Ms) : cI k l ≤ l.length := List.length_filter_le _ _
theorem cO_le (l : List Ms) : cO l ≤ l.length := List.length_filter_le _ _
theorem take_succ {l : List Ms} {i : Nat} {m : Ms} (hm : l[i]? = some m) : l.take (i + 1) = l.take i ++ [m] := by rw [List.take_add_one, hm]; rfl
theorem cI_yes {l : List Ms} {i : Nat} {m : Ms} {k : Int} (hm : l[i]? = some m) (h : m.is = k) : cI k (l.take (i + 1)) = cI k (l.take i) + 1 := by
  unfold cI; rw [take_succ hm, List.filter_append, List.length_append]; simp [h]
theorem cI_no {l : List Ms} {i : Nat} {m : Ms} {k : Int} (hm : l[i]? = some m) (h : ¬ m.is = k) : cI k (l.take (i + 1)) = cI k (l.take i) := by
  unfold cI; rw [take_succ hm, List.filter_append, List.length_append]; simp [h]
theorem cO_yes {l : List Ms} {i : Nat} {m : Ms} (hm : l[i]? = some m) (h1 : ¬ m.is = 1) (h2 : ¬ m.is = 2) (h3 : ¬ m.is = 3) : cO (l.take (i + 1)) = cO (l.take i) + 1 := by
  unfold cO; rw [take_succ hm, List.filter_append, List.length_append]; simp [h1, h2, h3]
theorem cO_no {l : List Ms} {i : Nat} {m : Ms} (hm : l[i]? = some m) (h : m.is = 1 ∨ m.is = 2 ∨ m.is = 3) : cO (l.take (i + 1)) = cO (l.take i) := by
  unfold cO; rw [take_succ hm, List.filter_append, List.length_append]
  rcases h with h | h | h <;> simp [h]
def stM (r : RS) (l : List Ms) : Array Value := aSt (r.credit - (r.L.length : Int)) (cI 1 l) (cI 2 l) (cI 3 l) (cO l) r.epoch
set_option maxRecDepth 100000 in
set_option maxHeartbeats 4000000 in
theorem RClaim_calls {w : World} {rb B : Nat} {r : RS} {v : Value} (h : RL w rb B r v) : Calls Try.prog 25 #[.pointer (some ⟨rb, 0, none⟩)] w fun e w' => ClaE r rb B v w e w' := by
  obtain ⟨A, c, rfl, hc⟩ := h.form
  have HLEN := Aside0.mk h.len.1
  have HC64 := Aside0.mk h.len.2
  obtain ⟨i0, hi0, hz0, hz1, hz2⟩ := info_parts info81
  have HI0 := Aside0.mk (And.intro hi0 (And.intro hz0 (And.intro hz1 hz2)))
  clear hi0 hz0 hz1 hz2
  have HB0 := Aside0.mk ((Rb.start h).alloc (.cells (aTick 0 0) 34))
  clear h
  go_enter Try.func25, Try.ntmps25
  go_upto_region 1 with fail
  generalize hw1 : w.alloc (.cells (aTick 0 0) 34) = w1 at HB0 ⊢
  clear hw1
  obtain ⟨c0, c1, c2, c3, c4⟩ := HB0.out.rl.cells
  clear c1 c2 c3
  by_cases hfull : r.credit ≤ (r.L.length : Int)
  · have k1 : decide ((r.L.length : Int) ≥ r.credit) = true := decide_eq_true hfull
    have k2 : decide (r.credit ≤ (r.L.length : Int)) = true := decide_eq_true hfull
    have HFULL := Aside0.mk hfull
    clear hfull
    go_quiet (fail)
    clear c0 c4
    have HB2 := Aside0.mk (HB0.out.below (pw_below_drewN (Below.refl _ _) nq))
    clear HB0
    generalize w1.drewN nq = w2 at HB2 ⊢
    go_wp2_with ((with_reducible refine gate_store (t := 34) (p := 2) rfl ?_); refine store_blk rfl 34 (.tmp 2) (.tmp 15) rfl (w.heap.size) 0 (aTick 0 0) (aTick 0 0) 34 rfl rfl (HB2.out.blk (g := w.heap.size) (C := (aTick 0 0)) (t := 34) (by simp)) (by simp [aMs, aStamp, aSlot, aTick]) (by kernel_rfl) (by simp [aMs, aStamp, aSlot, aTick, Value.oneCell']) ?_; intro w3 hww _; have HB3 : Aside0 (Rb w rb B r (.slice A r.L.length c) [(w.heap.size, .cells (aTick 0 0) 34)] w3) := ⟨by rw [hww]; exact HB2.out.head (fun p hp => by cases hp) 0 _ rfl⟩; clear hww)
    exact bodyPost_ret (res_ct (t := 34) rfl rfl rfl (HB3.out.blk (g := w.heap.size) (C := aTick 0 0) (t := 34) (by simp)) Try.underlying34 rfl (by kernel_rfl)) rfl (Or.inl ⟨HFULL.out, rfl, HB3.out.nil⟩)
  · have k1 : decide ((r.L.length : Int) ≥ r.credit) = false := decide_eq_false hfull
    have k2 : decide (r.credit ≤ (r.L.length : Int)) = false := decide_eq_false hfull
    have HROOM : Aside0 (r.L.length + 1 ≤ 64) := ⟨by have := HC64.out; omega⟩
    have HFULL := Aside0.mk hfull
    clear hfull
    go_quiet (fail)
    clear c0 c4
    have HB2 := Aside0.mk (HB0.out.below (pw_below_drewN (Below.refl _ _) nq))
    clear HB0
    generalize w1.drewN nq = w2 at HB2 ⊢
    go_upto_region 3 with fail
    refine startN (S := fun w' => RL w' rb B r (.slice A r.L.length c) ∧ True) (N := [3, 7]) (by kernel_rfl) ?_
    have hHeld : (fun w' => RL w' rb B r (.slice A r.L.length c) ∧ True) w2.drew := ⟨(HB2.out.below (Below.refl _ _).drew).rl, trivial⟩
    refine takeF (i := 0) (v := _) 16 rfl rfl (by kernel_rfl) (by kernel_rfl) (by kernel_rfl) (fun _ _ _ h => h) (Or.inl ⟨by rfl, fun w' _ => by first | (go_simp; done) | (go_simp; with_reducible rfl) | (go_simp; rfl)⟩) ?_
    try simp only [Act.put, List.setIfInBounds_toArray, List.set_cons_zero, List.set_cons_succ]
    refine takeF (i := 1) (v := _) 17 rfl rfl (by kernel_rfl) (by kernel_rfl) (by kernel_rfl) (fun _ _ _ h => h) (Or.inl ⟨by rfl, fun w' _ => by first | (go_simp; done) | (go_simp; with_reducible rfl) | (go_simp; rfl)⟩) ?_
    try simp only [Act.put, List.setIfInBounds_toArray, List.set_cons_zero, List.set_cons_succ]
    refine takeF (i := 2) (v := _) 18 rfl rfl (by kernel_rfl) (by kernel_rfl) (by kernel_rfl) (fun _ _ _ h => h) (Or.inl ⟨by rfl, fun w' _ => by first | (go_simp; done) | (go_simp; with_reducible rfl) | (go_simp; rfl)⟩) ?_
    try simp only [Act.put, List.setIfInBounds_toArray, List.set_cons_zero, List.set_cons_succ]
    refine takeN (i := 3) (v := _) 19 rfl rfl (by kernel_rfl) (by kernel_rfl) (by kernel_rfl) (fun _ _ _ h => h) (by kernel_rfl) (Or.inl ⟨by rfl, fun w' hW => by have hq0 := hW.1.cells.2.2.1; have hq1 := hW.1.cells.2.2.2.1; first | (go_simp; done) | (go_simp; with_reducible rfl) | (go_simp; rfl)⟩) hHeld ?_
    try simp only [Act.put, List.setIfInBounds_toArray, List.set_cons_zero, List.set_cons_succ]
    refine takeF (i := 4) (v := _) 20 rfl rfl (by kernel_rfl) (by kernel_rfl) (by kernel_rfl) (fun _ _ _ h => h) (Or.inl ⟨by rfl, fun w' _ => by first | (go_simp; done) | (go_simp; with_reducible rfl) | (go_simp; rfl)⟩) ?_
    try simp only [Act.put, List.setIfInBounds_toArray, List.set_cons_zero, List.set_cons_succ]
    refine takeF (i := 5) (v := _) 21 rfl rfl (by kernel_rfl) (by kernel_rfl) (by kernel_rfl) (fun _ _ _ h => h) (Or.inl ⟨by rfl, fun w' _ => by first | (go_simp; done) | (go_simp; with_reducible rfl) | (go_simp; rfl)⟩) ?_
    try simp only [Act.put, List.setIfInBounds_toArray, List.set_cons_zero, List.set_cons_succ]
    refine takeF (i := 6) (v := _) 22 rfl rfl (by kernel_rfl) (by kernel_rfl) (by kernel_rfl) (fun _ _ _ h => h) (Or.inl ⟨by rfl, fun w' _ => by first | (go_simp; done) | (go_simp; with_reducible rfl) | (go_simp; rfl)⟩) ?_
    try simp only [Act.put, List.setIfInBounds_toArray, List.set_cons_zero, List.set_cons_succ]
    refine takeN (i := 7) (v := _) 23 rfl rfl (by kernel_rfl) (by kernel_rfl) (by kernel_rfl) (fun _ _ _ h => h) (by kernel_rfl) (Or.inl ⟨by rfl, fun w' hW => by have hq0 := hW.1.cells.2.2.1; have hq1 := hW.1.cells.2.2.2.1; first | (go_simp; done) | (go_simp; with_reducible rfl) | (go_simp; rfl)⟩) hHeld ?_
    try simp only [Act.put, List.setIfInBounds_toArray, List.set_cons_zero, List.set_cons_succ]
    refine takeF (i := 8) (v := _) 24 rfl rfl (by kernel_rfl) (by kernel_rfl) (by kernel_rfl) (fun _ _ _ h => h) (Or.inl ⟨by rfl, fun w' _ => by first | (go_simp; done) | (go_simp; with_reducible rfl) | (go_simp; rfl)⟩) ?_
    try simp only [Act.put, List.setIfInBounds_toArray, List.set_cons_zero, List.set_cons_succ]
    have HB3 := Aside0.mk (HB2.out.below (Below.refl _ _).drew)
    clear hHeld
    generalize w2.drew = w3 at HB3 ⊢
    refine readyN (rs := [9]) (by kernel_rfl) (by simp) ?_
    refine eachN.cons rfl (fun K hK => ?_) eachN.nil
    go_simp
    have HFR := Aside0.mk HB3.out.fresh
    have HB4 := Aside0.mk (HB3.out.alloc (.cells (aTick 0 0) 34))
    try change K _ (w3.alloc (.cells (aTick 0 0) 34))
    generalize w3.alloc (.cells (aTick 0 0) 34) = w4 at HB4 ⊢
    generalize w3.heap.size = g4 at HB4 HFR ⊢
    refine hK.out _ _ ⟨HB4.out.rl, trivial⟩ (fun hHeld => ?_)
    clear hK K
    try simp only [Act.put, List.setIfInBounds_toArray, List.set_cons_zero, List.set_cons_succ]
    clear hHeld
    refine readyN (rs := [10]) (by kernel_rfl) (by simp) ?_
    refine eachN.cons rfl (fun K hK => ?_) eachN.nil
    rw [if_pos (by rfl)]
    refine store_at rfl 34 (.tmp 4) (.tmp 24) rfl g4 0 (aTick r.next r.epoch) rfl rfl (there_of_block (HB4.out.blk (g := g4) (C := aTick 0 0) (t := 34) (by simp)) 0 2 (by simp [aTick])) (by kernel_rfl) (by simp [aTick, Value.oneCell']) ?_
    have HB5 : Aside0 (Rb w rb B r (.slice A r.L.length c) [(g4, .cells (aTick r.next r.epoch) 34), (w.heap.size, .cells (aTick 0 0) 34)] (w4.setCells g4 0 (aTick r.next r.epoch).toList)) := ⟨HB4.out.head HFR.out 0 _ rfl⟩
    generalize w4.setCells g4 0 (aTick r.next r.epoch).toList = w5 at HB5 ⊢
    refine hK.out _ _ ⟨HB5.out.rl, trivial⟩ (fun hHeld => ?_)
    clear hK K
    try simp only [Act.put, List.setIfInBounds_toArray, List.set_cons_zero, List.set_cons_succ]
    refine doneN (by kernel_rfl) ?_ _
    go_upto_region 4 with fail
    refine startN (S := fun w' => RL w' rb B r (.slice A r.L.length c) ∧ True) (N := [5, 10]) (by kernel_rfl) ?_
    have hHeld : (fun w' => RL w' rb B r (.slice A r.L.length c) ∧ True) w5.drew := ⟨(HB5.out.below (Below.refl _ _).drew).rl, trivial⟩
    refine takeF (i := 0) (v := _) 25 rfl rfl (by kernel_rfl) (by kernel_rfl) (by kernel_rfl) (fun _ _ _ h => h) (Or.inl ⟨by rfl, fun w' _ => by first | (go_simp; done) | (go_simp; with_reducible rfl) | (go_simp; rfl)⟩) ?_
    try simp only [Act.put, List.setIfInBounds_toArray, List.set_cons_zero, List.set_cons_succ]
    refine takeF (i := 2) (v := _) 27 rfl rfl (by kernel_rfl) (by kernel_rfl) (by kernel_rfl) (fun _ _ _ h => h) (Or.inl ⟨by rfl, fun w' _ => by first | (go_simp; done) | (go_simp; with_reducible rfl) | (go_simp; rfl)⟩) ?_
    try simp only [Act.put, List.setIfInBounds_toArray, List.set_cons_zero, List.set_cons_succ]
    refine takeF (i := 3) (v := _) 28 rfl rfl (by kernel_rfl) (by kernel_rfl) (by kernel_rfl) (fun _ _ _ h => h) (Or.inl ⟨by rfl, fun w' _ => by first | (go_simp; done) | (go_simp; with_reducible rfl) | (go_simp; rfl)⟩) ?_
    try simp only [Act.put, List.setIfInBounds_toArray, List.set_cons_zero, List.set_cons_succ]
    refine takeF (i := 4) (v := _) 29 rfl rfl (by kernel_rfl) (by kernel_rfl) (by kernel_rfl) (fun _ _ _ h => h) (Or.inl ⟨by rfl, fun w' _ => by first | (go_simp; done) | (go_simp; with_reducible rfl) | (go_simp; rfl)⟩) ?_
    try simp only [Act.put, List.setIfInBounds_toArray, List.set_cons_zero, List.set_cons_succ]
    refine takeN (i := 5) (v := _) 30 rfl rfl (by kernel_rfl) (by kernel_rfl) (by kernel_rfl) (fun _ _ _ h => h) (by kernel_rfl) (Or.inl ⟨by rfl, fun w' hW => by have hq0 := hW.1.cells.2.2.1; have hq1 := hW.1.cells.2.2.2.2; first | (go_simp; done) | (go_simp; with_reducible rfl) | (go_simp; rfl)⟩) hHeld ?_
    try simp only [Act.put, List.setIfInBounds_toArray, List.set_cons_zero, List.set_cons_succ]
    refine takeF (i := 7) (v := _) 32 rfl rfl (by kernel_rfl) (by kernel_rfl) (by kernel_rfl) (fun _ _ _ h => h) (Or.inl ⟨by rfl, fun w' _ => by first | (go_simp; done) | (go_simp; with_reducible rfl) | (go_simp; rfl)⟩) ?_
    try simp only [Act.put, List.setIfInBounds_toArray, List.set_cons_zero, List.set_cons_succ]
    refine takeF (i := 8) (v := _) 33 rfl rfl (by kernel_rfl) (by kernel_rfl) (by kernel_rfl) (fun _ _ _ h => h) (Or.inl ⟨by rfl, fun w' _ => by first | (go_simp; done) | (go_simp; with_reducible rfl) | (go_simp; rfl)⟩) ?_
    try simp only [Act.put, List.setIfInBounds_toArray, List.set_cons_zero, List.set_cons_succ]
    refine takeF (i := 9) (v := _) 34 rfl rfl (by kernel_rfl) (by kernel_rfl) (by kernel_rfl) (fun _ _ _ h => h) (Or.inl ⟨by rfl, fun w' _ => by first | (go_simp; done) | (go_simp; with_reducible rfl) | (go_simp; rfl)⟩) ?_
    try simp only [Act.put, List.setIfInBounds_toArray, List.set_cons_zero, List.set_cons_succ]
    refine takeN (i := 10) (v := _) 35 rfl rfl (by kernel_rfl) (by kernel_rfl) (by kernel_rfl) (fun _ _ _ h => h) (by kernel_rfl) (Or.inl ⟨by rfl, fun w' hW => by have hq0 := hW.1.cells.2.2.1; have hq1 := hW.1.cells.2.2.2.2; first | (go_simp; done) | (go_simp; with_reducible rfl) | (go_simp; rfl)⟩) hHeld ?_
    try simp only [Act.put, List.setIfInBounds_toArray, List.set_cons_zero, List.set_cons_succ]
    refine takeF (i := 11) (v := _) 36 rfl rfl (by kernel_rfl) (by kernel_rfl) (by kernel_rfl) (fun _ _ _ h => h) (Or.inl ⟨by rfl, fun w' _ => by first | (go_simp; done) | (go_simp; with_reducible rfl) | (go_simp; rfl)⟩) ?_
    try simp only [Act.put, List.setIfInBounds_toArray, List.set_cons_zero, List.set_cons_succ]
    have HX0 := Aside0.mk (HB5.out.below (Below.refl _ _).drew)
    clear hHeld
    generalize w5.drew = x0 at HX0 ⊢
    refine readyN (rs := [1, 12]) (by kernel_rfl) (by simp) ?_
    refine eachN.cons rfl (fun K hK => ?_) (eachN.cons rfl (fun K hK => ?_) eachN.nil)
    · go_simp
      have HX1 := Aside0.mk (HX0.out.alloc (.cells #[] 81))
      try change K _ (x0.alloc (.cells #[] 81))
      generalize x0.alloc (.cells #[] 81) = x1 at HX1 ⊢
      generalize x0.heap.size = g9 at HX1 ⊢
      refine hK.out _ _ (⟨HX1.out.rl, trivial⟩) (fun hHeld => ?_)
      clear hK K
      try simp only [Act.put, List.setIfInBounds_toArray, List.set_cons_zero, List.set_cons_succ]
      clear hHeld
      refine readyN (rs := [6, 12]) (by kernel_rfl) (by simp) ?_
      refine eachN.cons rfl (fun K hK => ?_) (eachN.cons rfl (fun K hK => ?_) eachN.nil)
      · obtain ⟨v2, x2, hrun, hrow, hgr⟩ := run_copy (P := Try.prog) x1 74 74 81 i0 _ 7 56 Try.underlying74 HI0.out.1 HI0.out.2.1 HI0.out.2.2.1 HI0.out.2.2.2 rfl (by decide) ⟨g9, 0, none⟩ A r.L.length c (fM r.L) (fM_len _) HX1.out.rl.row.src (by have := HLEN.out; unfold maxLen; omega) (by have := HLEN.out; omega)
        obtain ⟨A2, c2, rfl, hc2⟩ := hrow.form
        have HRUN := Aside0.mk hrun
        have HR2 := Aside0.mk hrow
        have HX2 := Aside0.mk (HX1.out.below (grown_below hgr))
        obtain ⟨xc, hxc⟩ : ∃ xc, x1 = xc := ⟨_, rfl⟩
        have HC2 : Aside0 (Below xc.heap.size xc x2) := ⟨by rw [← hxc]; exact grown_below hgr⟩
        have HXC : Aside0 (Rb w rb B r (.slice A r.L.length c) [(g4, .cells (aTick r.next r.epoch) 34), (w.heap.size, .cells (aTick 0 0) 34)] xc) := ⟨by rw [← hxc]; exact HX1.out.sub (fun p hp => by simp only [List.mem_cons, List.not_mem_nil, or_false] at hp ⊢; rcases hp with rfl | rfl <;> simp)⟩
        rw [hxc] at HR2
        clear hxc hrun hrow hgr hc2
        rw [if_pos (by rfl)]
        refine app_at _ (.tmp 26) (.tmp 30) 74 rfl (v1 := .slice (some ⟨g9, 0, none⟩) 0 0) (v2 := .slice A r.L.length c) rfl rfl HRUN.out ?_
        refine hK.out _ _ (⟨HX2.out.rl, trivial⟩) (fun hHeld => ?_)
        clear hK K
        try simp only [Act.put, List.setIfInBounds_toArray, List.set_cons_zero, List.set_cons_succ]
        clear hHeld
        refine readyN (rs := [12]) (by kernel_rfl) (by simp) ?_
        refine eachN.cons rfl (fun K hK => ?_) eachN.nil
        go_simp
        have HX3 := Aside0.mk (HX2.out.alloc (.cells (aMs (newMs r)) 81))
        have HM3 : Aside0 ((x2.alloc (.cells (aMs (newMs r)) 81)).heap[x2.heap.size]? = some (.cells (aMs (newMs r)) 81 (0, 0))) := ⟨World.alloc_heap_new _ _⟩
        try change K _ (x2.alloc (.cells (aMs (newMs r)) 81))
        have HR3 := Aside0.mk (HR2.out.below (w' := x2.alloc (.cells (aMs (newMs r)) 81)) ((Below.refl _ _).alloc (Nat.le_refl _) _))
        have HC3 : Aside0 (Below xc.heap.size xc (x2.alloc (.cells (aMs (newMs r)) 81))) := ⟨HC2.out.trans (((Below.refl _ _).alloc (Nat.le_refl _) _).mono HC2.out.size)⟩
        generalize x2.alloc (.cells (aMs (newMs r)) 81) = x3 at HX3 HM3 HR3 HC3 ⊢
        generalize x2.heap.size = gm at HX3 HM3 ⊢
        refine hK.out _ _ (⟨HX3.out.rl, trivial⟩) (fun hHeld => ?_)
        clear hK K
        try simp only [Act.put, List.setIfInBounds_toArray, List.set_cons_zero, List.set_cons_succ]
        clear hHeld
        refine readyN (rs := [13]) (by kernel_rfl) (by simp) ?_
        refine eachN.cons rfl (fun K hK => ?_) eachN.nil
        obtain ⟨v3, x4, hrun, hrow, hon⟩ := run_append_row (P := Try.prog) x3 74 74 81 i0 _ 7 56 Try.underlying74 HI0.out.1 HI0.out.2.1 HI0.out.2.2.1 HI0.out.2.2.2 rfl (by decide) xc.heap.size _ r.L.length (fM r.L) HR3.out HC3.out.size ⟨gm, 0, none⟩ 1 1 (aMs (newMs r)).toList rfl (fun j u hj => by rw [Addr.add_lit, Nat.zero_add]; simp only [World.cell?, HM3.out]; rw [← Array.getElem?_toList]; exact hj) (by have h9 := fM_oneC [newMs r]; rwa [fM_one] at h9) (by have := HLEN.out; unfold maxLen; omega) (by have := HLEN.out; omega)
        rw [← fM_one, ← fM_append] at hrow
        have hlen : r.L.length + 1 = (r.L ++ [newMs r]).length := by rw [List.length_append]; rfl
        rw [hlen] at hrow
        have hl64 : (r.L ++ [newMs r]).length ≤ 64 := by rw [← hlen]; exact HROOM.out
        clear hlen
        generalize hLL : r.L ++ [newMs r] = LL at hrow hl64
        have HLL := Aside0.mk hLL
        have HL64 := Aside0.mk hl64
        clear hLL hl64
        obtain ⟨A3, c3', rfl, hc3⟩ := hrow.form
        have HRUN2 := Aside0.mk hrun
        have HROW2 := Aside0.mk hrow
        have HX4 := Aside0.mk (HXC.out.below (HC3.out.trans (hon.below HC3.out.size)))
        clear hrun hrow hon hc3
        rw [if_pos (by rfl)]
        refine app_at _ (.tmp 31) (.tmp 37) 74 rfl (v1 := .slice A2 r.L.length c2) (v2 := .slice (some ⟨gm, 0, none⟩) 1 1) rfl rfl HRUN2.out ?_
        refine hK.out _ _ (⟨HX4.out.rl, trivial⟩) (fun hHeld => ?_)
        clear hK K
        try simp only [Act.put, List.setIfInBounds_toArray, List.set_cons_zero, List.set_cons_succ]
        refine takeF (i := 14) (v := _) 39 rfl rfl (by kernel_rfl) (by kernel_rfl) (by kernel_rfl) (fun _ _ _ h => h) (Or.inl ⟨by rfl, fun w' _ => by first | (go_simp; done) | (go_simp; with_reducible rfl) | (go_simp; rfl)⟩) ?_
        try simp only [Act.put, List.setIfInBounds_toArray, List.set_cons_zero, List.set_cons_succ]
        refine takeF (i := 15) (v := _) 40 rfl rfl (by kernel_rfl) (by kernel_rfl) (by kernel_rfl) (fun _ _ _ h => h) (Or.inl ⟨by rfl, fun w' _ => by first | (go_simp; done) | (go_simp; with_reducible rfl) | (go_simp; rfl)⟩) ?_
        try simp only [Act.put, List.setIfInBounds_toArray, List.set_cons_zero, List.set_cons_succ]
        clear hHeld
        have d4 := HX4.out.rl.cells.2.2.2.2
        have g4f := HX4.out.rl.frozen 4
        refine readyN (rs := [16]) (by kernel_rfl) (by simp) ?_
        refine eachN.last rfl (by kernel_rfl) (fun K hK => ?_)
        go_simp
        have HB6 : Aside0 (Rb w rb B { r with L := LL } (.slice A3 LL.length c3') [(g4, .cells (aTick r.next r.epoch) 34), (w.heap.size, .cells (aTick 0 0) 34)] (x4.setCell ⟨rb, 4, none⟩ (.slice A3 LL.length c3'))) := ⟨HX4.out.setL HROW2.out HXC.out.rl.sz HL64.out (fun p hp => ⟨hp, (Array.getElem?_eq_some_iff.1 (HXC.out.obj p hp).1).1⟩)⟩
        clear d4 g4f
        try change K _ (x4.setCell ⟨rb, 4, none⟩ (.slice A3 LL.length c3'))
        generalize x4.setCell ⟨rb, 4, none⟩ (.slice A3 LL.length c3') = w6 at HB6 ⊢
        refine hK.out _ _ ?_
        clear hK K
        try simp only [Act.put, List.setIfInBounds_toArray, List.set_cons_zero, List.set_cons_succ]
        refine doneN (by kernel_rfl) ?_ _
        have d2 := HB6.out.rl.cells.2.2.1
        have f2 := HB6.out.rl.frozen 2
        go_upto_region 6 with fail
        clear d2 f2
        have HB7 : Aside0 (Rb w rb B { r with L := LL, next := IntKind.u64.wrap (r.next + 1) } (.slice A3 LL.length c3') [(g4, .cells (aTick r.next r.epoch) 34), (w.heap.size, .cells (aTick 0 0) 34)] (w6.setCell ⟨rb, 2, none⟩ (.int .u64 (IntKind.u64.wrap (r.next + 1))))) := ⟨HB6.out.setF 2 _ rfl rfl rfl⟩
        try change Code.wp _ _ _ _ (w6.setCell ⟨rb, 2, none⟩ (.int .u64 (IntKind.u64.wrap (r.next + 1))))
        generalize w6.setCell ⟨rb, 2, none⟩ (.int .u64 (IntKind.u64.wrap (r.next + 1))) = w7 at HB7 ⊢
        have t0 : w7.cell? ⟨g4, 0, none⟩ = some (.int .u64 r.next) := (HB7.out.ptr (g := g4) (C := aTick r.next r.epoch) (t := 34) (by simp) 0).1
        have t1 : w7.cell? ⟨g4, 1, none⟩ = some (.int .u64 r.epoch) := (HB7.out.ptr (g := g4) (C := aTick r.next r.epoch) (t := 34) (by simp) 1).1
        go_wp2_with ((with_reducible refine gate_store (t := 34) (p := 2) rfl ?_); refine store_blk rfl 34 (.tmp 2) (.tmp 48) rfl (w.heap.size) 0 (aTick r.next r.epoch) (aTick 0 0) 34 rfl rfl (HB7.out.blk (g := w.heap.size) (C := (aTick 0 0)) (t := 34) (by simp)) (by simp [aMs, aStamp, aSlot, aTick]) (by kernel_rfl) (by simp [aMs, aStamp, aSlot, aTick, Value.oneCell']) ?_; intro w8 hww _; have HB8 : Aside0 (Rb w rb B { r with L := LL, next := IntKind.u64.wrap (r.next + 1) } (.slice A3 LL.length c3') [(g4, .cells (aTick r.next r.epoch) 34), (w.heap.size, .cells (aTick r.next r.epoch) 34)] w8) := ⟨by rw [hww]; exact HB7.out.snd (HFR.out _ List.mem_cons_self).symm (fun p hp => by cases hp) 0 _ rfl⟩; clear hww)
        exact bodyPost_ret (res_ct (t := 34) rfl rfl rfl (HB8.out.blk (g := w.heap.size) (C := aTick r.next r.epoch) (t := 34) (by simp)) Try.underlying34 rfl (by kernel_rfl)) rfl (Or.inr ⟨by have := HFULL.out; omega, rfl, _, by unfold claR; rw [HLL.out]; exact HB8.out.nil⟩)
      · go_simp
        have HX2 := Aside0.mk (HX1.out.alloc (.cells (aMs (newMs r)) 81))
        have HM2 : Aside0 ((x1.alloc (.cells (aMs (newMs r)) 81)).heap[x1.heap.size]? = some (.cells (aMs (newMs r)) 81 (0, 0))) := ⟨World.alloc_heap_new _ _⟩
        try change K _ (x1.alloc (.cells (aMs (newMs r)) 81))
        generalize x1.alloc (.cells (aMs (newMs r)) 81) = x2 at HX2 HM2 ⊢
        generalize x1.heap.size = gm at HX2 HM2 ⊢
        refine hK.out _ _ (⟨HX2.out.rl, trivial⟩) (fun hHeld => ?_)
        clear hK K
        try simp only [Act.put, List.setIfInBounds_toArray, List.set_cons_zero, List.set_cons_succ]
        clear hHeld
        refine readyN (rs := [6]) (by kernel_rfl) (by simp) ?_
        refine eachN.cons rfl (fun K hK => ?_) eachN.nil
        obtain ⟨v2, x3, hrun, hrow, hgr⟩ := run_copy (P := Try.prog) x2 74 74 81 i0 _ 7 56 Try.underlying74 HI0.out.1 HI0.out.2.1 HI0.out.2.2.1 HI0.out.2.2.2 rfl (by decide) ⟨g9, 0, none⟩ A r.L.length c (fM r.L) (fM_len _) HX2.out.rl.row.src (by have := HLEN.out; unfold maxLen; omega) (by have := HLEN.out; omega)
        obtain ⟨A2, c2, rfl, hc2⟩ := hrow.form
        have HRUN := Aside0.mk hrun
        have HR3 := Aside0.mk hrow
        have HX3 := Aside0.mk (HX2.out.below (grown_below hgr))
        have HM3 : Aside0 (x3.heap[gm]? = some (.cells (aMs (newMs r)) 81 (0, 0))) := ⟨obj_below (grown_below hgr) HM2.out⟩
        obtain ⟨xc, hxc⟩ : ∃ xc, x2 = xc := ⟨_, rfl⟩
        have HC3 : Aside0 (Below xc.heap.size xc x3) := ⟨by rw [← hxc]; exact grown_below hgr⟩
        have HXC : Aside0 (Rb w rb B r (.slice A r.L.length c) [(g4, .cells (aTick r.next r.epoch) 34), (w.heap.size, .cells (aTick 0 0) 34)] xc) := ⟨by rw [← hxc]; exact HX2.out.sub (fun p hp => by simp only [List.mem_cons, List.not_mem_nil, or_false] at hp ⊢; rcases hp with rfl | rfl <;> simp)⟩
        rw [hxc] at HR3
        clear hxc hrun hrow hgr hc2
        rw [if_pos (by rfl)]
        refine app_at _ (.tmp 26) (.tmp 30) 74 rfl (v1 := .slice (some ⟨g9, 0, none⟩) 0 0) (v2 := .slice A r.L.length c) rfl rfl HRUN.out ?_
        refine hK.out _ _ (⟨HX3.out.rl, trivial⟩) (fun hHeld => ?_)
        clear hK K
        try simp only [Act.put, List.setIfInBounds_toArray, List.set_cons_zero, List.set_cons_succ]
        clear hHeld
        refine readyN (rs := [13]) (by kernel_rfl) (by simp) ?_
        refine eachN.cons rfl (fun K hK => ?_) eachN.nil
        obtain ⟨v3, x4, hrun, hrow, hon⟩ := run_append_row (P := Try.prog) x3 74 74 81 i0 _ 7 56 Try.underlying74 HI0.out.1 HI0.out.2.1 HI0.out.2.2.1 HI0.out.2.2.2 rfl (by decide) xc.heap.size _ r.L.length (fM r.L) HR3.out HC3.out.size ⟨gm, 0, none⟩ 1 1 (aMs (newMs r)).toList rfl (fun j u hj => by rw [Addr.add_lit, Nat.zero_add]; simp only [World.cell?, HM3.out]; rw [← Array.getElem?_toList]; exact hj) (by have h9 := fM_oneC [newMs r]; rwa [fM_one] at h9) (by have := HLEN.out; unfold maxLen; omega) (by have := HLEN.out; omega)
        rw [← fM_one, ← fM_append] at hrow
        have hlen : r.L.length + 1 = (r.L ++ [newMs r]).length := by rw [List.length_append]; rfl
        rw [hlen] at hrow
        have hl64 : (r.L ++ [newMs r]).length ≤ 64 := by rw [← hlen]; exact HROOM.out
        clear hlen
        generalize hLL : r.L ++ [newMs r] = LL at hrow hl64
        have HLL := Aside0.mk hLL
        have HL64 := Aside0.mk hl64
        clear hLL hl64
        obtain ⟨A3, c3', rfl, hc3⟩ := hrow.form
        have HRUN2 := Aside0.mk hrun
        have HROW2 := Aside0.mk hrow
        have HX4 := Aside0.mk (HXC.out.below (HC3.out.trans (hon.below HC3.out.size)))
        clear hrun hrow hon hc3
        rw [if_pos (by rfl)]
        refine app_at _ (.tmp 31) (.tmp 37) 74 rfl (v1 := .slice A2 r.L.length c2) (v2 := .slice (some ⟨gm, 0, none⟩) 1 1) rfl rfl HRUN2.out ?_
        refine hK.out _ _ (⟨HX4.out.rl, trivial⟩) (fun hHeld => ?_)
        clear hK K
        try simp only [Act.put, List.setIfInBounds_toArray, List.set_cons_zero, List.set_cons_succ]
        refine takeF (i := 14) (v := _) 39 rfl rfl (by kernel_rfl) (by kernel_rfl) (by kernel_rfl) (fun _ _ _ h => h) (Or.inl ⟨by rfl, fun w' _ => by first | (go_simp; done) | (go_simp; with_reducible rfl) | (go_simp; rfl)⟩) ?_
        try simp only [Act.put, List.setIfInBounds_toArray, List.set_cons_zero, List.set_cons_succ]
        refine takeF (i := 15) (v := _) 40 rfl rfl (by kernel_rfl) (by kernel_rfl) (by kernel_rfl) (fun _ _ _ h => h) (Or.inl ⟨by rfl, fun w' _ => by first | (go_simp; done) | (go_simp; with_reducible rfl) | (go_simp; rfl)⟩) ?_
        try simp only [Act.put, List.setIfInBounds_toArray, List.set_cons_zero, List.set_cons_succ]
        clear hHeld
        have d4 := HX4.out.rl.cells.2.2.2.2
        have g4f := HX4.out.rl.frozen 4
        refine readyN (rs := [16]) (by kernel_rfl) (by simp) ?_
        refine eachN.last rfl (by kernel_rfl) (fun K hK => ?_)
        go_simp
        have HB6 : Aside0 (Rb w rb B { r with L := LL } (.slice A3 LL.length c3') [(g4, .cells (aTick r.next r.epoch) 34), (w.heap.size, .cells (aTick 0 0) 34)] (x4.setCell ⟨rb, 4, none⟩ (.slice A3 LL.length c3'))) := ⟨HX4.out.setL HROW2.out HXC.out.rl.sz HL64.out (fun p hp => ⟨hp, (Array.getElem?_eq_some_iff.1 (HXC.out.obj p hp).1).1⟩)⟩
        clear d4 g4f
        try change K _ (x4.setCell ⟨rb, 4, none⟩ (.slice A3 LL.length c3'))
        generalize x4.setCell ⟨rb, 4, none⟩ (.slice A3 LL.length c3') = w6 at HB6 ⊢
        refine hK.out _ _ ?_
        clear hK K
        try simp only [Act.put, List.setIfInBounds_toArray, List.set_cons_zero, List.set_cons_succ]
        refine doneN (by kernel_rfl) ?_ _
        have d2 := HB6.out.rl.cells.2.2.1
        have f2 := HB6.out.rl.frozen 2
        go_upto_region 6 with fail
        clear d2 f2
        have HB7 : Aside0 (Rb w rb B { r with L := LL, next := IntKind.u64.wrap (r.next + 1) } (.slice A3 LL.length c3') [(g4, .cells (aTick r.next r.epoch) 34), (w.heap.size, .cells (aTick 0 0) 34)] (w6.setCell ⟨rb, 2, none⟩ (.int .u64 (IntKind.u64.wrap (r.next + 1))))) := ⟨HB6.out.setF 2 _ rfl rfl rfl⟩
        try change Code.wp _ _ _ _ (w6.setCell ⟨rb, 2, none⟩ (.int .u64 (IntKind.u64.wrap (r.next + 1))))
        generalize w6.setCell ⟨rb, 2, none⟩ (.int .u64 (IntKind.u64.wrap (r.next + 1))) = w7 at HB7 ⊢
        have t0 : w7.cell? ⟨g4, 0, none⟩ = some (.int .u64 r.next) := (HB7.out.ptr (g := g4) (C := aTick r.next r.epoch) (t := 34) (by simp) 0).1
        have t1 : w7.cell? ⟨g4, 1, none⟩ = some (.int .u64 r.epoch) := (HB7.out.ptr (g := g4) (C := aTick r.next r.epoch) (t := 34) (by simp) 1).1
        go_wp2_with ((with_reducible refine gate_store (t := 34) (p := 2) rfl ?_); refine store_blk rfl 34 (.tmp 2) (.tmp 48) rfl (w.heap.size) 0 (aTick r.next r.epoch) (aTick 0 0) 34 rfl rfl (HB7.out.blk (g := w.heap.size) (C := (aTick 0 0)) (t := 34) (by simp)) (by simp [aMs, aStamp, aSlot, aTick]) (by kernel_rfl) (by simp [aMs, aStamp, aSlot, aTick, Value.oneCell']) ?_; intro w8 hww _; have HB8 : Aside0 (Rb w rb B { r with L := LL, next := IntKind.u64.wrap (r.next + 1) } (.slice A3 LL.length c3') [(g4, .cells (aTick r.next r.epoch) 34), (w.heap.size, .cells (aTick r.next r.epoch) 34)] w8) := ⟨by rw [hww]; exact HB7.out.snd (HFR.out _ List.mem_cons_self).symm (fun p hp => by cases hp) 0 _ rfl⟩; clear hww)
        exact bodyPost_ret (res_ct (t := 34) rfl rfl rfl (HB8.out.blk (g := w.heap.size) (C := aTick r.next r.epoch) (t := 34) (by simp)) Try.underlying34 rfl (by kernel_rfl)) rfl (Or.inr ⟨by have := HFULL.out; omega, rfl, _, by unfold claR; rw [HLL.out]; exact HB8.out.nil⟩)
    · go_simp
      have HX1 := Aside0.mk (HX0.out.alloc (.cells (aMs (newMs r)) 81))
      have HM1 : Aside0 ((x0.alloc (.cells (aMs (newMs r)) 81)).heap[x0.heap.size]? = some (.cells (aMs (newMs r)) 81 (0, 0))) := ⟨World.alloc_heap_new _ _⟩
      try change K _ (x0.alloc (.cells (aMs (newMs r)) 81))
      generalize x0.alloc (.cells (aMs (newMs r)) 81) = x1 at HX1 HM1 ⊢
      generalize x0.heap.size = gm at HX1 HM1 ⊢
      refine hK.out _ _ (⟨HX1.out.rl, trivial⟩) (fun hHeld => ?_)
      clear hK K
      try simp only [Act.put, List.setIfInBounds_toArray, List.set_cons_zero, List.set_cons_succ]
      clear hHeld
      refine readyN (rs := [1]) (by kernel_rfl) (by simp) ?_
      refine eachN.cons rfl (fun K hK => ?_) eachN.nil
      go_simp
      have HX2 := Aside0.mk (HX1.out.alloc (.cells #[] 81))
      try change K _ (x1.alloc (.cells #[] 81))
      have HM2 : Aside0 ((x1.alloc (.cells #[] 81)).heap[gm]? = some (.cells (aMs (newMs r)) 81 (0, 0))) := ⟨obj_below ((Below.refl _ _).alloc (Nat.le_refl _) _) HM1.out⟩
      generalize x1.alloc (.cells #[] 81) = x2 at HX2 HM2 ⊢
      generalize x1.heap.size = g9 at HX2 ⊢
      refine hK.out _ _ (⟨HX2.out.rl, trivial⟩) (fun hHeld => ?_)
      clear hK K
      try simp only [Act.put, List.setIfInBounds_toArray, List.set_cons_zero, List.set_cons_succ]
      clear hHeld
      refine readyN (rs := [6]) (by kernel_rfl) (by simp) ?_
      refine eachN.cons rfl (fun K hK => ?_) eachN.nil
      obtain ⟨v2, x3, hrun, hrow, hgr⟩ := run_copy (P := Try.prog) x2 74 74 81 i0 _ 7 56 Try.underlying74 HI0.out.1 HI0.out.2.1 HI0.out.2.2.1 HI0.out.2.2.2 rfl (by decide) ⟨g9, 0, none⟩ A r.L.length c (fM r.L) (fM_len _) HX2.out.rl.row.src (by have := HLEN.out; unfold maxLen; omega) (by have := HLEN.out; omega)
      obtain ⟨A2, c2, rfl, hc2⟩ := hrow.form
      have HRUN := Aside0.mk hrun
      have HR3 := Aside0.mk hrow
      have HX3 := Aside0.mk (HX2.out.below (grown_below hgr))
      have HM3 : Aside0 (x3.heap[gm]? = some (.cells (aMs (newMs r)) 81 (0, 0))) := ⟨obj_below (grown_below hgr) HM2.out⟩
      obtain ⟨xc, hxc⟩ : ∃ xc, x2 = xc := ⟨_, rfl⟩
      have HC3 : Aside0 (Below xc.heap.size xc x3) := ⟨by rw [← hxc]; exact grown_below hgr⟩
      have HXC : Aside0 (Rb w rb B r (.slice A r.L.length c) [(g4, .cells (aTick r.next r.epoch) 34), (w.heap.size, .cells (aTick 0 0) 34)] xc) := ⟨by rw [← hxc]; exact HX2.out.sub (fun p hp => by simp only [List.mem_cons, List.not_mem_nil, or_false] at hp ⊢; rcases hp with rfl | rfl <;> simp)⟩
      rw [hxc] at HR3
      clear hxc hrun hrow hgr hc2
      rw [if_pos (by rfl)]
      refine app_at _ (.tmp 26) (.tmp 30) 74 rfl (v1 := .slice (some ⟨g9, 0, none⟩) 0 0) (v2 := .slice A r.L.length c) rfl rfl HRUN.out ?_
      refine hK.out _ _ (⟨HX3.out.rl, trivial⟩) (fun hHeld => ?_)
      clear hK K
      try simp only [Act.put, List.setIfInBounds_toArray, List.set_cons_zero, List.set_cons_succ]
      clear hHeld
      refine readyN (rs := [13]) (by kernel_rfl) (by simp) ?_
      refine eachN.cons rfl (fun K hK => ?_) eachN.nil
      obtain ⟨v3, x4, hrun, hrow, hon⟩ := run_append_row (P := Try.prog) x3 74 74 81 i0 _ 7 56 Try.underlying74 HI0.out.1 HI0.out.2.1 HI0.out.2.2.1 HI0.out.2.2.2 rfl (by decide) xc.heap.size _ r.L.length (fM r.L) HR3.out HC3.out.size ⟨gm, 0, none⟩ 1 1 (aMs (newMs r)).toList rfl (fun j u hj => by rw [Addr.add_lit, Nat.zero_add]; simp only [World.cell?, HM3.out]; rw [← Array.getElem?_toList]; exact hj) (by have h9 := fM_oneC [newMs r]; rwa [fM_one] at h9) (by have := HLEN.out; unfold maxLen; omega) (by have := HLEN.out; omega)
      rw [← fM_one, ← fM_append] at hrow
      have hlen : r.L.length + 1 = (r.L ++ [newMs r]).length := by rw [List.length_append]; rfl
      rw [hlen] at hrow
      have hl64 : (r.L ++ [newMs r]).length ≤ 64 := by rw [← hlen]; exact HROOM.out
      clear hlen
      generalize hLL : r.L ++ [newMs r] = LL at hrow hl64
      have HLL := Aside0.mk hLL
      have HL64 := Aside0.mk hl64
      clear hLL hl64
      obtain ⟨A3, c3', rfl, hc3⟩ := hrow.form
      have HRUN2 := Aside0.mk hrun
      have HROW2 := Aside0.mk hrow
      have HX4 := Aside0.mk (HXC.out.below (HC3.out.trans (hon.below HC3.out.size)))
      clear hrun hrow hon hc3
      rw [if_pos (by rfl)]
      refine app_at _ (.tmp 31) (.tmp 37) 74 rfl (v1 := .slice A2 r.L.length c2) (v2 := .slice (some ⟨gm, 0, none⟩) 1 1) rfl rfl HRUN2.out ?_
      refine hK.out _ _ (⟨HX4.out.rl, trivial⟩) (fun hHeld => ?_)
      clear hK K
      try simp only [Act.put, List.setIfInBounds_toArray, List.set_cons_zero, List.set_cons_succ]
      refine takeF (i := 14) (v := _) 39 rfl rfl (by kernel_rfl) (by kernel_rfl) (by kernel_rfl) (fun _ _ _ h => h) (Or.inl ⟨by rfl, fun w' _ => by first | (go_simp; done) | (go_simp; with_reducible rfl) | (go_simp; rfl)⟩) ?_
      try simp only [Act.put, List.setIfInBounds_toArray, List.set_cons_zero, List.set_cons_succ]
      refine takeF (i := 15) (v := _) 40 rfl rfl (by kernel_rfl) (by kernel_rfl) (by kernel_rfl) (fun _ _ _ h => h) (Or.inl ⟨by rfl, fun w' _ => by first | (go_simp; done) | (go_simp; with_reducible rfl) | (go_simp; rfl)⟩) ?_
      try simp only [Act.put, List.setIfInBounds_toArray, List.set_cons_zero, List.set_cons_succ]
      clear hHeld
      have d4 := HX4.out.rl.cells.2.2.2.2
      have g4f := HX4.out.rl.frozen 4
      refine readyN (rs := [16]) (by kernel_rfl) (by simp) ?_
      refine eachN.last rfl (by kernel_rfl) (fun K hK => ?_)
      go_simp
      have HB6 : Aside0 (Rb w rb B { r with L := LL } (.slice A3 LL.length c3') [(g4, .cells (aTick r.next r.epoch) 34), (w.heap.size, .cells (aTick 0 0) 34)] (x4.setCell ⟨rb, 4, none⟩ (.slice A3 LL.length c3'))) := ⟨HX4.out.setL HROW2.out HXC.out.rl.sz HL64.out (fun p hp => ⟨hp, (Array.getElem?_eq_some_iff.1 (HXC.out.obj p hp).1).1⟩)⟩
      clear d4 g4f
      try change K _ (x4.setCell ⟨rb, 4, none⟩ (.slice A3 LL.length c3'))
      generalize x4.setCell ⟨rb, 4, none⟩ (.slice A3 LL.length c3') = w6 at HB6 ⊢
      refine hK.out _ _ ?_
      clear hK K
      try simp only [Act.put, List.setIfInBounds_toArray, List.set_cons_zero, List.set_cons_succ]
      refine doneN (by kernel_rfl) ?_ _
      have d2 := HB6.out.rl.cells.2.2.1
      have f2 := HB6.out.rl.frozen 2
      go_upto_region 6 with fail
      clear d2 f2
      have HB7 : Aside0 (Rb w rb B { r with L := LL, next := IntKind.u64.wrap (r.next + 1) } (.slice A3 LL.length c3') [(g4, .cells (aTick r.next r.epoch) 34), (w.heap.size, .cells (aTick 0 0) 34)] (w6.setCell ⟨rb, 2, none⟩ (.int .u64 (IntKind.u64.wrap (r.next + 1))))) := ⟨HB6.out.setF 2 _ rfl rfl rfl⟩
      try change Code.wp _ _ _ _ (w6.setCell ⟨rb, 2, none⟩ (.int .u64 (IntKind.u64.wrap (r.next + 1))))
      generalize w6.setCell ⟨rb, 2, none⟩ (.int .u64 (IntKind.u64.wrap (r.next + 1))) = w7 at HB7 ⊢
      have t0 : w7.cell? ⟨g4, 0, none⟩ = some (.int .u64 r.next) := (HB7.out.ptr (g := g4) (C := aTick r.next r.epoch) (t := 34) (by simp) 0).1
      have t1 : w7.cell? ⟨g4, 1, none⟩ = some (.int .u64 r.epoch) := (HB7.out.ptr (g := g4) (C := aTick r.next r.epoch) (t := 34) (by simp) 1).1
      go_wp2_with ((with_reducible refine gate_store (t := 34) (p := 2) rfl ?_); refine store_blk rfl 34 (.tmp 2) (.tmp 48) rfl (w.heap.size) 0 (aTick r.next r.epoch) (aTick 0 0) 34 rfl rfl (HB7.out.blk (g := w.heap.size) (C := (aTick 0 0)) (t := 34) (by simp)) (by simp [aMs, aStamp, aSlot, aTick]) (by kernel_rfl) (by simp [aMs, aStamp, aSlot, aTick, Value.oneCell']) ?_; intro w8 hww _; have HB8 : Aside0 (Rb w rb B { r with L := LL, next := IntKind.u64.wrap (r.next + 1) } (.slice A3 LL.length c3') [(g4, .cells (aTick r.next r.epoch) 34), (w.heap.size, .cells (aTick r.next r.epoch) 34)] w8) := ⟨by rw [hww]; exact HB7.out.snd (HFR.out _ List.mem_cons_self).symm (fun p hp => by cases hp) 0 _ rfl⟩; clear hww)
      exact bodyPost_ret (res_ct (t := 34) rfl rfl rfl (HB8.out.blk (g := w.heap.size) (C := aTick r.next r.epoch) (t := 34) (by simp)) Try.underlying34 rfl (by kernel_rfl)) rfl (Or.inr ⟨by have := HFULL.out; omega, rfl, _, by unfold claR; rw [HLL.out]; exact HB8.out.nil⟩)
set_option maxRecDepth 100000 in
set_option maxHeartbeats 4000000 in
theorem RNew_calls (cr : Int) (two : Bool) (st : Int) (h1 : 1 ≤ cr) (h2 : cr ≤ 64) (w : World) : Calls Try.prog 11 #[.int .i64 cr, .bool two, .int .u64 st] w fun e w' =>
    ∃ v, e = .returned (.tuple #[.pointer (some ⟨w.heap.size, 0, none⟩), .int .i64 0]) ∧ Below w.heap.size w w' ∧ RL w' w.heap.size (w.heap.size + 1) ⟨cr, two, st, 0, []⟩ v := by
  have d1 : decide (cr < 1) = false := decide_eq_false (by omega)
  have d2 : decide (cr > 64) = false := decide_eq_false (by omega)
  have d3 : decide (64 < cr) = false := decide_eq_false (by omega)
  have HB : Aside0 (Below w.heap.size w (w.alloc (.cells (rC ⟨cr, two, st, 0, []⟩ (.slice none 0 0)) 76))) := ⟨(Below.refl _ _).alloc (Nat.le_refl _) _⟩
  have HR : Aside0 (RL (w.alloc (.cells (rC ⟨cr, two, st, 0, []⟩ (.slice none 0 0)) 76)) w.heap.size (w.heap.size + 1) ⟨cr, two, st, 0, []⟩ (.slice none 0 0)) := ⟨⟨World.alloc_heap_new _ _, RowQ.nil _ _ _ _, Nat.lt_succ_self _, by show _ ≤ (w.heap.push _).size; rw [Array.size_push]; exact Nat.le_refl _, Nat.zero_le _, h2⟩⟩
  clear h1 h2
  go_enter Try.func11, Try.ntmps11
  go_wp2
  go_ret2
  exact ⟨_, rfl, HB.out, HR.out⟩
theorem RNew_bad (cr : Int) (two : Bool) (st : Int) (hb : cr < 1 ∨ 64 < cr) (w : World) : Calls Try.prog 11 #[.int .i64 cr, .bool two, .int .u64 st] w fun e w' =>
    e = .returned (.tuple #[.pointer none, .int .i64 80]) ∧ Below w.heap.size w w' := by
  rcases hb with hb | hb
  · have d1 : decide (cr < 1) = true := decide_eq_true hb
    clear hb
    go_enter Try.func11, Try.ntmps11
    go_wp2
    go_ret2
    exact ⟨rfl, Below.refl _ _⟩
  · have d1 : decide (cr < 1) = false := decide_eq_false (by omega)
    have d2 : decide (cr > 64) = true := decide_eq_true hb
    have d3 : decide (64 < cr) = true := decide_eq_true hb
    clear hb
    go_enter Try.func11, Try.ntmps11
    go_wp2
    go_ret2
    exact ⟨rfl, Below.refl _ _⟩
set_option maxRecDepth 100000 in
set_option maxHeartbeats 4000000 in
theorem RReset_calls {w : World} {rb B : Nat} {r : RS} {v : Value} (h : RL w rb B r v) : Calls Try.prog 32 #[.pointer (some ⟨rb, 0, none⟩)] w fun e w' => RstE r rb B v w e w' := by
  obtain ⟨A, c, rfl, hc⟩ := h.form
  have HLEN := Aside0.mk h.len.1
  obtain ⟨i1, hi, hz0, hz1, hz2⟩ := info_parts infoz36
  have HI1 := Aside0.mk (And.intro hi (And.intro hz0 (And.intro hz1 hz2)))
  clear hi hz0 hz1 hz2
  have HB0 := Aside0.mk (Rb.start h)
  clear h
  go_enter Try.func32, Try.ntmps32
  go_wp2
  have HQ0 : Aside0 (Rb w rb B r (.slice A r.L.length c) [] w ∧ RowQ w w.heap.size 36 2 (.slice none 0 0) (slM (r.L.take 0)).length (fQ (slM (r.L.take 0))) ∧ ∀ (k : Nat) m, k < 0 → r.L[k]? = some m → ¬ m.is = 1) := ⟨⟨HB0.out, RowQ.nil _ _ _ _, fun k m hk => by omega⟩⟩
  go_loopw [4, 5] (fun u i wr => ∃ i0 : Nat, i0 ≤ r.L.length ∧ i = .int .i64 (i0 : Int) ∧ Aside0 (Rb w rb B r (.slice A r.L.length c) [] wr ∧ RowQ wr w.heap.size 36 2 u (slM (r.L.take i0)).length (fQ (slM (r.L.take i0))) ∧ ∀ (k : Nat) m, k < i0 → r.L[k]? = some m → ¬ m.is = 1)) (fun _ i _ => r.L.length - (intOf i).toNat)
  case atStart => exact ⟨0, Nat.zero_le _, rfl, HQ0⟩
  case round =>
    clear HQ0
    obtain ⟨i, hil, rfl, HS⟩ := hrel
    clear HB0
    have c4 := HS.out.1.rl.cells.2.2.2.2
    by_cases hlt : i < r.L.length
    · have x1 : decide ((i : Int) < (r.L.length : Int)) = true := decide_eq_true (Int.ofNat_lt.2 hlt)
      have x1' : decide (i < r.L.length) = true := decide_eq_true hlt
      have b1 : (0 : Int) ≤ (i : Int) := Int.natCast_nonneg i
      have b2 : (i : Int) < (r.L.length : Int) := Int.ofNat_lt.2 hlt
      have ht : ((i : Int)).toNat = i := Int.toNat_natCast i
      have hwi : wrap64 ((i : Int) + 1) = (i : Int) + 1 := w64_nat (Nat.lt_of_lt_of_le hlt (Nat.le_trans HLEN.out (by decide)))
      have HHi : Aside0 (r.L.length - ((i : Int) + 1).toNat < r.L.length - ((i : Int)).toNat) := ⟨meas_nat hlt⟩
      have HL : Aside0 (i + 1 ≤ r.L.length) := ⟨hlt⟩
      have HE : Aside0 (r.L[i]? = some r.L[i]) := ⟨List.getElem?_eq_getElem hlt⟩
      obtain ⟨gT, oT, rfl, m0, m1, m2, m3, m4, m5, m6⟩ := HS.out.1.rl.msg HE.out
      generalize r.L[i] = m at HE m0 m1 m2 m3 m4 m5 m6
      clear m0 m2 m5 m6 hlt hil
      by_cases h1 : m.is = 1
      · have k1 : (m.is == 1) = true := by simp [h1]
        have HP := Aside0.mk h1
        have HS2 := Aside0.mk HS.out.1
        clear h1
        go_wp2
        go_ret2
        exact Or.inl ⟨⟨i, m, HE.out, HP.out⟩, rfl, HS2.out⟩
      · have k1 : (m.is == 1) = false := by simp [h1]
        have HN := Aside0.mk h1
        have HLS : Aside0 ((slM (r.L.take i)).length ≤ 64) := ⟨by have := HL.out; have := HLEN.out; rw [slM_len (by omega)]; omega⟩
        clear h1
        go_wp2_with ((with_reducible refine gate_builtin (b := .append) rfl ?_); at_builtin; (refine wpList_append_Q _ rfl (.tmp 24) (.tmp 33) 46 rfl 36 i1 _ 2 16 Try.underlying46 HI1.out.1 HI1.out.2.1 HI1.out.2.2.1 HI1.out.2.2.2 rfl (by decide) w.heap.size u4 (slM (r.L.take i)).length (fQ (slM (r.L.take i))) rfl (HS.out.2.1.below ((Below.refl _ _).alloc (Nat.le_refl _) (.cells #[.int .i64 m.n, .int .u64 m.g] 36))) (Nat.le_trans HS.out.1.fr.size ((Below.refl _ _).alloc (Nat.le_refl _) (.cells #[.int .i64 m.n, .int .u64 m.g] 36)).size) _ 1 [.int .i64 m.n, .int .u64 m.g] rfl rfl (cells_new _ _ _) (by intro u hu; simp only [List.mem_cons, List.not_mem_nil, or_false] at hu; rcases hu with rfl | rfl <;> rfl) (by have := HLS.out; unfold maxLen; omega) (by have := HLS.out; omega) ?_); intro v2' w10 hown' hgrow; have HS3 := Aside0.mk (And.intro ((HS.out.1.below ((Below.refl _ _).alloc (Nat.le_refl _) (.cells #[.int .i64 m.n, .int .u64 m.g] 36))).only36 hgrow) hown'); clear hown' hgrow)
        go_roundw
        case rel => exact ⟨i + 1, HL.out, (by first | rfl | (rw [hwi]; rfl)), ⟨HS3.out.1, by rw [slM_take HE.out, List.length_append, fQ_append]; exact HS3.out.2, no_step (p := fun x => x.is = 1) HS.out.2.2 HE.out HN.out⟩⟩
        case measure => first | exact HHi.out | (simp only [hwi]; exact HHi.out)
    · have x1 : decide ((i : Int) < (r.L.length : Int)) = false := decide_eq_false (fun h => hlt (Int.ofNat_lt.1 h))
      have x1' : decide (i < r.L.length) = false := decide_eq_false hlt
      have HNO := Aside0.mk (no_end (p := fun x => x.is = 1) HS.out.2.2 (Nat.le_of_not_lt hlt))
      have HROW : Aside0 (RowQ wr w.heap.size 36 2 u4 (slM r.L).length (fQ (slM r.L))) := ⟨by have h1 := HS.out.2.1; rwa [List.take_of_length_le (Nat.le_of_not_lt hlt)] at h1⟩
      have HS2 := Aside0.mk HS.out.1
      clear hlt hil HS
      have f4 := HS2.out.rl.frozen 4
      obtain ⟨A2, c2, rfl, hc2⟩ := HROW.out.form
      go_upto_region 9 with fail
      clear c4 f4
      have HB4 : Aside0 (Rb w rb B { r with L := [] } (.slice none 0 0) [] (wr.setCell ⟨rb, 4, none⟩ (.slice none 0 0))) := ⟨HS2.out.setL (B' := B) (RowQ.nil _ _ _ _) (Nat.le_refl _) (Nat.zero_le _) (fun p hp => by cases hp)⟩
      have HROW4 : Aside0 (RowQ (wr.setCell ⟨rb, 4, none⟩ (.slice none 0 0)) w.heap.size 36 2 (.slice A2 (slM r.L).length c2) (slM r.L).length (fQ (slM r.L))) := ⟨HROW.out.off (k := rb) (fun g o n' cap hv hc => by have h1 := HROW.out; rw [hv] at h1; have := (h1.at hc).2; have := HS2.out.hb; omega) 4 [.slice none 0 0]⟩
      try change Code.wp _ _ _ _ (wr.setCell ⟨rb, 4, none⟩ (.slice none 0 0))
      generalize wr.setCell ⟨rb, 4, none⟩ (.slice none 0 0) = w4 at HB4 HROW4 ⊢
      have d3 := HB4.out.rl.cells.2.2.2.1
      have f3 := HB4.out.rl.frozen 3
      go_upto_region 10 with fail
      clear d3 f3
      have HB5 : Aside0 (Rb w rb B { r with L := [], epoch := IntKind.u64.wrap (r.epoch + 1) } (.slice none 0 0) [] (w4.setCell ⟨rb, 3, none⟩ (.int .u64 (IntKind.u64.wrap (r.epoch + 1))))) := ⟨HB4.out.setF 3 _ rfl rfl rfl⟩
      have HROW5 : Aside0 (RowQ (w4.setCell ⟨rb, 3, none⟩ (.int .u64 (IntKind.u64.wrap (r.epoch + 1)))) w.heap.size 36 2 (.slice A2 (slM r.L).length c2) (slM r.L).length (fQ (slM r.L))) := ⟨HROW4.out.off (k := rb) (fun g o n' cap hv hc => by have h1 := HROW4.out; rw [hv] at h1; have := (h1.at hc).2; have := HS2.out.hb; omega) 3 [_]⟩
      try change Code.wp _ _ _ _ (w4.setCell ⟨rb, 3, none⟩ (.int .u64 (IntKind.u64.wrap (r.epoch + 1))))
      generalize w4.setCell ⟨rb, 3, none⟩ (.int .u64 (IntKind.u64.wrap (r.epoch + 1))) = w5 at HB5 HROW5 ⊢
      go_wp2
      go_ret2
      exact Or.inr ⟨HNO.out, _, _, rfl, HROW5.out, HB5.out⟩
set_option maxRecDepth 100000 in
set_option maxHeartbeats 4000000 in
theorem RState_calls {w : World} {rb B : Nat} {r : RS} {v : Value} (h : RL w rb B r v) (hcr : -1000000 ≤ r.credit) : Calls Try.prog 14 #[.pointer (some ⟨rb, 0, none⟩)] w fun e w' =>
    e = .returned (.agg (stM r r.L)) ∧ Rb w rb B r v [] w' := by
  obtain ⟨A, c, rfl, hc⟩ := h.form
  have HLEN := Aside0.mk h.len.1
  have hws : IntKind.i64.wrap (r.credit - (r.L.length : Int)) = r.credit - (r.L.length : Int) := by have h1 := h.len.1; have h2 := h.len.2; rw [IntKind.wrap_i64]; omega
  have HB0 := Aside0.mk ((Rb.start h).alloc (.cells (aSt 0 0 0 0 0 0) 42))
  clear h hcr
  go_enter Try.func14, Try.ntmps14
  go_upto_region 1 with fail
  generalize hw1 : w.alloc (.cells (aSt 0 0 0 0 0 0) 42) = w1 at HB0 ⊢
  clear hw1
  refine startN (S := fun w' => RL w' rb B r (.slice A r.L.length c) ∧ True) (N := [3, 7, 13]) (by kernel_rfl) ?_
  have hHeld : (fun w' => RL w' rb B r (.slice A r.L.length c) ∧ True) w1.drew := ⟨(HB0.out.below (Below.refl _ _).drew).rl, trivial⟩
  refine takeF (i := 0) (v := _) 5 rfl rfl (by kernel_rfl) (by kernel_rfl) (by kernel_rfl) (fun _ _ _ h => h) (Or.inl ⟨by rfl, fun w' _ => by first | (go_simp; done) | (go_simp; with_reducible rfl) | (go_simp; rfl)⟩) ?_
  try simp only [Act.put, List.setIfInBounds_toArray, List.set_cons_zero, List.set_cons_succ]
  refine takeF (i := 1) (v := _) 6 rfl rfl (by kernel_rfl) (by kernel_rfl) (by kernel_rfl) (fun _ _ _ h => h) (Or.inl ⟨by rfl, fun w' _ => by first | (go_simp; done) | (go_simp; with_reducible rfl) | (go_simp; rfl)⟩) ?_
  try simp only [Act.put, List.setIfInBounds_toArray, List.set_cons_zero, List.set_cons_succ]
  refine takeF (i := 2) (v := _) 7 rfl rfl (by kernel_rfl) (by kernel_rfl) (by kernel_rfl) (fun _ _ _ h => h) (Or.inl ⟨by rfl, fun w' _ => by first | (go_simp; done) | (go_simp; with_reducible rfl) | (go_simp; rfl)⟩) ?_
  try simp only [Act.put, List.setIfInBounds_toArray, List.set_cons_zero, List.set_cons_succ]
  refine takeN (i := 3) (v := _) 8 rfl rfl (by kernel_rfl) (by kernel_rfl) (by kernel_rfl) (fun _ _ _ h => h) (by kernel_rfl) (Or.inl ⟨by rfl, fun w' hW => by have hq0 := hW.1.cells.1; have hq1 := hW.1.cells.2.2.2.1; have hq2 := hW.1.cells.2.2.2.2; first | (go_simp; done) | (go_simp; with_reducible rfl) | (go_simp; rfl)⟩) hHeld ?_
  try simp only [Act.put, List.setIfInBounds_toArray, List.set_cons_zero, List.set_cons_succ]
  refine takeF (i := 4) (v := _) 9 rfl rfl (by kernel_rfl) (by kernel_rfl) (by kernel_rfl) (fun _ _ _ h => h) (Or.inl ⟨by rfl, fun w' _ => by first | (go_simp; done) | (go_simp; with_reducible rfl) | (go_simp; rfl)⟩) ?_
  try simp only [Act.put, List.setIfInBounds_toArray, List.set_cons_zero, List.set_cons_succ]
  refine takeF (i := 5) (v := _) 10 rfl rfl (by kernel_rfl) (by kernel_rfl) (by kernel_rfl) (fun _ _ _ h => h) (Or.inl ⟨by rfl, fun w' _ => by first | (go_simp; done) | (go_simp; with_reducible rfl) | (go_simp; rfl)⟩) ?_
  try simp only [Act.put, List.setIfInBounds_toArray, List.set_cons_zero, List.set_cons_succ]
  refine takeF (i := 6) (v := _) 11 rfl rfl (by kernel_rfl) (by kernel_rfl) (by kernel_rfl) (fun _ _ _ h => h) (Or.inl ⟨by rfl, fun w' _ => by first | (go_simp; done) | (go_simp; with_reducible rfl) | (go_simp; rfl)⟩) ?_
  try simp only [Act.put, List.setIfInBounds_toArray, List.set_cons_zero, List.set_cons_succ]
  refine takeN (i := 7) (v := _) 12 rfl rfl (by kernel_rfl) (by kernel_rfl) (by kernel_rfl) (fun _ _ _ h => h) (by kernel_rfl) (Or.inl ⟨by rfl, fun w' hW => by have hq0 := hW.1.cells.1; have hq1 := hW.1.cells.2.2.2.1; have hq2 := hW.1.cells.2.2.2.2; first | (go_simp; done) | (go_simp; with_reducible rfl) | (go_simp; rfl)⟩) hHeld ?_
  try simp only [Act.put, List.setIfInBounds_toArray, List.set_cons_zero, List.set_cons_succ]
  refine takeF (i := 8) (v := _) 13 rfl rfl (by kernel_rfl) (by kernel_rfl) (by kernel_rfl) (fun _ _ _ h => h) (Or.inl ⟨by rfl, fun w' _ => by first | (go_simp; done) | (go_simp; with_reducible rfl) | (go_simp; rfl)⟩) ?_
  try simp only [Act.put, List.setIfInBounds_toArray, List.set_cons_zero, List.set_cons_succ]
  refine takeF (i := 9) (v := _) 14 rfl rfl (by kernel_rfl) (by kernel_rfl) (by kernel_rfl) (fun _ _ _ h => h) (Or.inl ⟨by rfl, fun w' _ => by first | (go_simp; done) | (go_simp; with_reducible rfl) | (go_simp; rfl)⟩) ?_
  try simp only [Act.put, List.setIfInBounds_toArray, List.set_cons_zero, List.set_cons_succ]
  refine takeF (i := 10) (v := _) 15 rfl rfl (by kernel_rfl) (by kernel_rfl) (by kernel_rfl) (fun _ _ _ h => h) (Or.inl ⟨by rfl, fun w' _ => by first | (go_simp; done) | (go_simp; with_reducible rfl) | (go_simp; rfl)⟩) ?_
  try simp only [Act.put, List.setIfInBounds_toArray, List.set_cons_zero, List.set_cons_succ]
  refine takeF (i := 11) (v := _) 16 rfl rfl (by kernel_rfl) (by kernel_rfl) (by kernel_rfl) (fun _ _ _ h => h) (Or.inl ⟨by rfl, fun w' _ => by first | (go_simp; done) | (go_simp; with_reducible rfl) | (go_simp; rfl)⟩) ?_
  try simp only [Act.put, List.setIfInBounds_toArray, List.set_cons_zero, List.set_cons_succ]
  refine takeF (i := 12) (v := _) 17 rfl rfl (by kernel_rfl) (by kernel_rfl) (by kernel_rfl) (fun _ _ _ h => h) (Or.inl ⟨by rfl, fun w' _ => by first | (go_simp; done) | (go_simp; with_reducible rfl) | (go_simp; rfl)⟩) ?_
  try simp only [Act.put, List.setIfInBounds_toArray, List.set_cons_zero, List.set_cons_succ]
  refine takeN (i := 13) (v := _) 18 rfl rfl (by kernel_rfl) (by kernel_rfl) (by kernel_rfl) (fun _ _ _ h => h) (by kernel_rfl) (Or.inl ⟨by rfl, fun w' hW => by have hq0 := hW.1.cells.1; have hq1 := hW.1.cells.2.2.2.1; have hq2 := hW.1.cells.2.2.2.2; first | (go_simp; done) | (go_simp; with_reducible rfl) | (go_simp; rfl)⟩) hHeld ?_
  try simp only [Act.put, List.setIfInBounds_toArray, List.set_cons_zero, List.set_cons_succ]
  refine takeF (i := 14) (v := _) 19 rfl rfl (by kernel_rfl) (by kernel_rfl) (by kernel_rfl) (fun _ _ _ h => h) (Or.inl ⟨by rfl, fun w' _ => by first | (go_simp; done) | (go_simp; with_reducible rfl) | (go_simp; rfl)⟩) ?_
  try simp only [Act.put, List.setIfInBounds_toArray, List.set_cons_zero, List.set_cons_succ]
  have HB1 := Aside0.mk (HB0.out.below (Below.refl _ _).drew)
  clear hHeld
  generalize w1.drew = w2 at HB1 ⊢
  refine readyN (rs := [15]) (by kernel_rfl) (by simp) ?_
  refine eachN.cons rfl (fun K hK => ?_) eachN.nil
  go_simp
  have HFR := Aside0.mk HB1.out.fresh
  have HB2 := Aside0.mk (HB1.out.alloc (.cells (aSt 0 0 0 0 0 0) 42))
  try change K _ (w2.alloc (.cells (aSt 0 0 0 0 0 0) 42))
  generalize w2.alloc (.cells (aSt 0 0 0 0 0 0) 42) = w3 at HB2 ⊢
  generalize w2.heap.size = g3 at HB2 HFR ⊢
  refine hK.out _ _ ⟨HB2.out.rl, trivial⟩ (fun hHeld => ?_)
  clear hK K
  try simp only [Act.put, List.setIfInBounds_toArray, List.set_cons_zero, List.set_cons_succ]
  clear hHeld
  refine readyN (rs := [16]) (by kernel_rfl) (by simp) ?_
  refine eachN.cons rfl (fun K hK => ?_) eachN.nil
  rw [if_pos (by rfl)]
  refine store_at rfl 42 (.tmp 3) (.tmp 19) rfl g3 0 (aSt (r.credit - (r.L.length : Int)) 0 0 0 0 r.epoch) rfl rfl (there_of_block (HB2.out.blk (g := g3) (C := aSt 0 0 0 0 0 0) (t := 42) (by simp)) 0 6 (by simp [aSt])) (by kernel_rfl) (by simp [aSt, Value.oneCell']) ?_
  have HB3 : Aside0 (Rb w rb B r (.slice A r.L.length c) [(g3, .cells (stM r (r.L.take 0)) 42), (w.heap.size, .cells (aSt 0 0 0 0 0 0) 42)] (w3.setCells g3 0 (aSt (r.credit - (r.L.length : Int)) 0 0 0 0 r.epoch).toList)) := ⟨HB2.out.head HFR.out 0 _ rfl⟩
  generalize w3.setCells g3 0 (aSt (r.credit - (r.L.length : Int)) 0 0 0 0 r.epoch).toList = w4 at HB3 ⊢
  refine hK.out _ _ ⟨HB3.out.rl, trivial⟩ (fun hHeld => ?_)
  clear hK K
  try simp only [Act.put, List.setIfInBounds_toArray, List.set_cons_zero, List.set_cons_succ]
  refine doneN (by kernel_rfl) ?_ _
  clear HB0 HB1 HB2 hws
  go_wp2
  go_loopw [4] (fun i wr => ∃ i0 : Nat, i0 ≤ r.L.length ∧ i = .int .i64 (i0 : Int) ∧ Aside0 (Rb w rb B r (.slice A r.L.length c) [(g3, .cells (stM r (r.L.take i0)) 42), (w.heap.size, .cells (aSt 0 0 0 0 0 0) 42)] wr)) (fun i _ => r.L.length - (intOf i).toNat)
  case atStart => exact ⟨0, Nat.zero_le _, rfl, HB3⟩
  case round =>
    clear HB3
    obtain ⟨i, hil, rfl, HS⟩ := hrel
    have c4 := HS.out.rl.cells.2.2.2.2
    by_cases hlt : i < r.L.length
    · have x1 : decide ((i : Int) < (r.L.length : Int)) = true := decide_eq_true (Int.ofNat_lt.2 hlt)
      have x1' : decide (i < r.L.length) = true := decide_eq_true hlt
      have b1 : (0 : Int) ≤ (i : Int) := Int.natCast_nonneg i
      have b2 : (i : Int) < (r.L.length : Int) := Int.ofNat_lt.2 hlt
      have ht : ((i : Int)).toNat = i := Int.toNat_natCast i
      have hwi : wrap64 ((i : Int) + 1) = (i : Int) + 1 := w64_nat (Nat.lt_of_lt_of_le hlt (Nat.le_trans HLEN.out (by decide)))
      have HHi : Aside0 (r.L.length - ((i : Int) + 1).toNat < r.L.length - ((i : Int)).toNat) := ⟨meas_nat hlt⟩
      have HL : Aside0 (i + 1 ≤ r.L.length) := ⟨hlt⟩
      have HE : Aside0 (r.L[i]? = some r.L[i]) := ⟨List.getElem?_eq_getElem hlt⟩
      obtain ⟨gT, oT, rfl, m0, m1, m2, m3, m4, m5, m6⟩ := HS.out.rl.msg HE.out
      generalize r.L[i] = m at HE m0 m1 m2 m3 m4 m5 m6
      clear m0 m2 m3 m4 m5 m6 hlt hil
      by_cases h1 : m.is = 1
      · have k1 : (m.is == 1) = true := by simp [h1]
        have E1 := cI_yes HE.out h1
        have E2 := cI_no (k := 2) HE.out (by rw [h1]; decide)
        have E3 := cI_no (k := 3) HE.out (by rw [h1]; decide)
        have E4 := cO_no HE.out (Or.inl h1)
        clear h1
        have y0 : wr.cell? ⟨g3, 1, none⟩ = some (.int .i64 ((cI 1 (r.L.take i)) : Int)) := (HS.out.ptr (g := g3) (C := stM r (r.L.take i)) (t := 42) (by simp) 1).1
        have y1 := (HS.out.ptr (g := g3) (C := stM r (r.L.take i)) (t := 42) (by simp) 1).2
        have hb : cI 1 (r.L.take i) ≤ 64 := by have h1 := cI_le 1 (r.L.take i); rw [List.length_take] at h1; have := HLEN.out; omega
        have hwc : wrap64 (((cI 1 (r.L.take i)) : Int) + 1) = ((cI 1 (r.L.take i)) : Int) + 1 := w64_nat (Nat.lt_of_le_of_lt hb (by decide))
        have hst : QLn.setAll (stM r (r.L.take i)) 1 [.int .i64 (((cI 1 (r.L.take i)) : Int) + 1)] = stM r (r.L.take (i + 1)) := by
          unfold stM
          rw [E1, E2, E3, E4]
          rfl
        have HST := Aside0.mk hst
        clear hb hst E1 E2 E3 E4
        generalize hq : (cI 1 (r.L.take i)) = q at y0 hwc HST
        clear hq
        go_wp2
        have HB4 : Aside0 (Rb w rb B r (.slice (some ⟨gT, oT, none⟩) r.L.length c) [(g3, .cells (stM r (r.L.take (i + 1))) 42), (w.heap.size, .cells (aSt 0 0 0 0 0 0) 42)] (wr.setCell ⟨g3, 1, none⟩ (.int .i64 ((q : Int) + 1)))) := ⟨HS.out.head HFR.out 1 _ HST.out⟩
        go_roundw
        case rel => exact ⟨i + 1, HL.out, (by first | rfl | (rw [hwi]; rfl)), HB4⟩
        case measure => first | exact HHi.out | (simp only [hwi]; exact HHi.out)
      · by_cases h2 : m.is = 2
        · have k1 : (m.is == 1) = false := by simp [h1]
          have k2 : (m.is == 2) = true := by simp [h2]
          have E1 := cI_no (k := 1) HE.out h1
          have E2 := cI_yes HE.out h2
          have E3 := cI_no (k := 3) HE.out (by rw [h2]; decide)
          have E4 := cO_no HE.out (Or.inr (Or.inl h2))
          clear h1 h2
          have y0 : wr.cell? ⟨g3, 2, none⟩ = some (.int .i64 ((cI 2 (r.L.take i)) : Int)) := (HS.out.ptr (g := g3) (C := stM r (r.L.take i)) (t := 42) (by simp) 2).1
          have y1 := (HS.out.ptr (g := g3) (C := stM r (r.L.take i)) (t := 42) (by simp) 2).2
          have hb : cI 2 (r.L.take i) ≤ 64 := by have h1 := cI_le 2 (r.L.take i); rw [List.length_take] at h1; have := HLEN.out; omega
          have hwc : wrap64 (((cI 2 (r.L.take i)) : Int) + 1) = ((cI 2 (r.L.take i)) : Int) + 1 := w64_nat (Nat.lt_of_le_of_lt hb (by decide))
          have hst : QLn.setAll (stM r (r.L.take i)) 2 [.int .i64 (((cI 2 (r.L.take i)) : Int) + 1)] = stM r (r.L.take (i + 1)) := by
            unfold stM
            rw [E1, E2, E3, E4]
            rfl
          have HST := Aside0.mk hst
          clear hb hst E1 E2 E3 E4
          generalize hq : (cI 2 (r.L.take i)) = q at y0 hwc HST
          clear hq
          go_wp2
          have HB4 : Aside0 (Rb w rb B r (.slice (some ⟨gT, oT, none⟩) r.L.length c) [(g3, .cells (stM r (r.L.take (i + 1))) 42), (w.heap.size, .cells (aSt 0 0 0 0 0 0) 42)] (wr.setCell ⟨g3, 2, none⟩ (.int .i64 ((q : Int) + 1)))) := ⟨HS.out.head HFR.out 2 _ HST.out⟩
          go_roundw
          case rel => exact ⟨i + 1, HL.out, (by first | rfl | (rw [hwi]; rfl)), HB4⟩
          case measure => first | exact HHi.out | (simp only [hwi]; exact HHi.out)
        · by_cases h3 : m.is = 3
          · have k1 : (m.is == 1) = false := by simp [h1]
            have k2 : (m.is == 2) = false := by simp [h2]
            have k3 : (m.is == 3) = true := by simp [h3]
            have E1 := cI_no (k := 1) HE.out h1
            have E2 := cI_no (k := 2) HE.out h2
            have E3 := cI_yes HE.out h3
            have E4 := cO_no HE.out (Or.inr (Or.inr h3))
            clear h1 h2 h3
            have y0 : wr.cell? ⟨g3, 3, none⟩ = some (.int .i64 ((cI 3 (r.L.take i)) : Int)) := (HS.out.ptr (g := g3) (C := stM r (r.L.take i)) (t := 42) (by simp) 3).1
            have y1 := (HS.out.ptr (g := g3) (C := stM r (r.L.take i)) (t := 42) (by simp) 3).2
            have hb : cI 3 (r.L.take i) ≤ 64 := by have h1 := cI_le 3 (r.L.take i); rw [List.length_take] at h1; have := HLEN.out; omega
            have hwc : wrap64 (((cI 3 (r.L.take i)) : Int) + 1) = ((cI 3 (r.L.take i)) : Int) + 1 := w64_nat (Nat.lt_of_le_of_lt hb (by decide))
            have hst : QLn.setAll (stM r (r.L.take i)) 3 [.int .i64 (((cI 3 (r.L.take i)) : Int) + 1)] = stM r (r.L.take (i + 1)) := by
              unfold stM
              rw [E1, E2, E3, E4]
              rfl
            have HST := Aside0.mk hst
            clear hb hst E1 E2 E3 E4
            generalize hq : (cI 3 (r.L.take i)) = q at y0 hwc HST
            clear hq
            go_wp2
            have HB4 : Aside0 (Rb w rb B r (.slice (some ⟨gT, oT, none⟩) r.L.length c) [(g3, .cells (stM r (r.L.take (i + 1))) 42), (w.heap.size, .cells (aSt 0 0 0 0 0 0) 42)] (wr.setCell ⟨g3, 3, none⟩ (.int .i64 ((q : Int) + 1)))) := ⟨HS.out.head HFR.out 3 _ HST.out⟩
            go_roundw
            case rel => exact ⟨i + 1, HL.out, (by first | rfl | (rw [hwi]; rfl)), HB4⟩
            case measure => first | exact HHi.out | (simp only [hwi]; exact HHi.out)
          · have k1 : (m.is == 1) = false := by simp [h1]
            have k2 : (m.is == 2) = false := by simp [h2]
            have k3 : (m.is == 3) = false := by simp [h3]
            have E1 := cI_no (k := 1) HE.out h1
            have E2 := cI_no (k := 2) HE.out h2
            have E3 := cI_no (k := 3) HE.out h3
            have E4 := cO_yes HE.out h1 h2 h3
            clear h1 h2 h3
            have y0 : wr.cell? ⟨g3, 4, none⟩ = some (.int .i64 ((cO (r.L.take i)) : Int)) := (HS.out.ptr (g := g3) (C := stM r (r.L.take i)) (t := 42) (by simp) 4).1
            have y1 := (HS.out.ptr (g := g3) (C := stM r (r.L.take i)) (t := 42) (by simp) 4).2
            have hb : cO (r.L.take i) ≤ 64 := by have h1 := cO_le (r.L.take i); rw [List.length_take] at h1; have := HLEN.out; omega
            have hwc : wrap64 (((cO (r.L.take i)) : Int) + 1) = ((cO (r.L.take i)) : Int) + 1 := w64_nat (Nat.lt_of_le_of_lt hb (by decide))
            have hst : QLn.setAll (stM r (r.L.take i)) 4 [.int .i64 (((cO (r.L.take i)) : Int) + 1)] = stM r (r.L.take (i + 1)) := by
              unfold stM
              rw [E1, E2, E3, E4]
              rfl
            have HST := Aside0.mk hst
            clear hb hst E1 E2 E3 E4
            generalize hq : (cO (r.L.take i)) = q at y0 hwc HST
            clear hq
            go_wp2
            have HB4 : Aside0 (Rb w rb B r (.slice (some ⟨gT, oT, none⟩) r.L.length c) [(g3, .cells (stM r (r.L.take (i + 1))) 42), (w.heap.size, .cells (aSt 0 0 0 0 0 0) 42)] (wr.setCell ⟨g3, 4, none⟩ (.int .i64 ((q : Int) + 1)))) := ⟨HS.out.head HFR.out 4 _ HST.out⟩
            go_roundw
            case rel => exact ⟨i + 1, HL.out, (by first | rfl | (rw [hwi]; rfl)), HB4⟩
            case measure => first | exact HHi.out | (simp only [hwi]; exact HHi.out)
    · have x1 : decide ((i : Int) < (r.L.length : Int)) = false := decide_eq_false (fun h => hlt (Int.ofNat_lt.1 h))
      have x1' : decide (i < r.L.length) = false := decide_eq_false hlt
      have HS2 : Aside0 (Rb w rb B r (.slice A r.L.length c) [(g3, .cells (stM r r.L) 42), (w.heap.size, .cells (aSt 0 0 0 0 0 0) 42)] wr) := ⟨by have h1 := HS.out; rwa [List.take_of_length_le (Nat.le_of_not_lt hlt)] at h1⟩
      clear hlt hil HS
      go_upto_region 13 with fail
      clear c4
      have y0 : wr.cell? ⟨g3, 0, none⟩ = some (.int .i64 (r.credit - (r.L.length : Int))) := (HS2.out.ptr (g := g3) (C := stM r r.L) (t := 42) (by simp) 0).1
      have y1 : wr.cell? ⟨g3, 1, none⟩ = some (.int .i64 (cI 1 r.L : Int)) := (HS2.out.ptr (g := g3) (C := stM r r.L) (t := 42) (by simp) 1).1
      have y2 : wr.cell? ⟨g3, 2, none⟩ = some (.int .i64 (cI 2 r.L : Int)) := (HS2.out.ptr (g := g3) (C := stM r r.L) (t := 42) (by simp) 2).1
      have y3 : wr.cell? ⟨g3, 3, none⟩ = some (.int .i64 (cI 3 r.L : Int)) := (HS2.out.ptr (g := g3) (C := stM r r.L) (t := 42) (by simp) 3).1
      have y4 : wr.cell? ⟨g3, 4, none⟩ = some (.int .i64 (cO r.L : Int)) := (HS2.out.ptr (g := g3) (C := stM r r.L) (t := 42) (by simp) 4).1
      have y5 : wr.cell? ⟨g3, 5, none⟩ = some (.int .u64 r.epoch) := (HS2.out.ptr (g := g3) (C := stM r r.L) (t := 42) (by simp) 5).1
      go_wp2_with ((with_reducible refine gate_store (t := 42) (p := 2) rfl ?_); refine store_blk rfl 42 (.tmp 2) (.tmp 59) rfl w.heap.size 0 (stM r r.L) (aSt 0 0 0 0 0 0) 42 rfl rfl (HS2.out.blk (g := w.heap.size) (C := aSt 0 0 0 0 0 0) (t := 42) (by simp)) (by simp [stM, aSt]) (by kernel_rfl) (by simp [stM, aSt, Value.oneCell']) ?_; intro w5 hww _; have HB5 : Aside0 (Rb w rb B r (.slice A r.L.length c) [(g3, .cells (stM r r.L) 42), (w.heap.size, .cells (stM r r.L) 42)] w5) := ⟨by rw [hww]; exact HS2.out.snd (HFR.out _ List.mem_cons_self).symm (fun p hp => by cases hp) 0 _ rfl⟩; clear hww)
      exact bodyPost_ret (results_cell_row (P := Try.prog) rfl _ _ w.heap.size 42 (stM r r.L) (0, 0) _ rfl (HB5.out.blk (g := w.heap.size) (C := stM r r.L) (t := 42) (by simp)) Try.underlying42 rfl (by kernel_rfl)) rfl ⟨rfl, HB5.out.nil⟩
end Go.Proofs.Ytglekbbdbnpohaa.QLn
