/- Lane: State. Written by a program of this repo (tools/gen_lstate.py). -/
import Derived.Test.YtglekbbdbnpohaaLLn
namespace Go.Proofs.Ytglekbbdbnpohaa.QLn
open Go.RowKit Go.Maps Go.Proofs.YtglekbbdbnpohaaW.PrintWords Go.Proofs.YtglekbbdbnpohaaW.PrintLast Go.Proofs.YtglekbbdbnpohaaW.PrintMore
set_option linter.unusedVariables false
set_option linter.unusedSimpArgs false
/-- How many of the list are still to come, held ones or others. -/
def cntL (l : List (Int × Past)) (left : Lit → Bool) (hb : Bool) : Nat := (l.filter (fun x => left (.int .u64 x.1) && (x.2.held == hb))).length
theorem cntL_step : ∀ (l : List (Int × Past)) (left : Lit → Bool) (k : Int) (c : Past), (l.map Prod.fst).Nodup → (k, c) ∈ l → left (.int .u64 k) = true → ∀ hb,
    cntL l (fun z => left z && !z.sameKey (.int .u64 k)) hb + (if c.held = hb then 1 else 0) = cntL l left hb
  | [], _, _, _, _, h, _, _ => by simp at h
  | x :: l, left, k, c, hn, hm, hl, hb => by
    rw [List.map_cons, List.nodup_cons] at hn
    unfold cntL
    by_cases e : x.1 = k
    · have hx : x.2 = c := by
        rcases List.mem_cons.1 hm with e1 | m1
        · rw [← e1]
        · exact absurd (List.mem_map.2 ⟨_, m1, e.symm⟩) hn.1
      have hno : ∀ y ∈ l, (Lit.int .u64 y.1).sameKey (.int .u64 k) = false := fun y hy => by
        cases hh : (Lit.int .u64 y.1).sameKey (.int .u64 k) with
        | false => rfl
        | true => exact absurd (List.mem_map.2 ⟨y, hy, ((same_iff _ _).1 hh).trans e.symm⟩) hn.1
      have e2 : l.filter (fun x => (left (.int .u64 x.1) && !(Lit.int .u64 x.1).sameKey (.int .u64 k)) && (x.2.held == hb)) = l.filter (fun x => left (.int .u64 x.1) && (x.2.held == hb)) :=
        List.filter_congr (fun y hy => by rw [hno y hy]; simp)
      rw [List.filter_cons_of_neg (by simp only [e, (same_iff k k).2 rfl]; simp), e2]
      by_cases h3 : c.held = hb
      · rw [if_pos h3, List.filter_cons_of_pos (by rw [e, hl, hx, h3]; simp), List.length_cons]
      · rw [if_neg h3, List.filter_cons_of_neg (by rw [e, hl, hx]; simp [h3])]; rfl
    · have hm' : (k, c) ∈ l := by
        rcases List.mem_cons.1 hm with e1 | m1
        · exact absurd (by rw [← e1]) e
        · exact m1
      have ih := cntL_step l left k c hn.2 hm' hl hb
      unfold cntL at ih
      have hk : (Lit.int .u64 x.1).sameKey (.int .u64 k) = false := by
        cases hh : (Lit.int .u64 x.1).sameKey (.int .u64 k) with
        | false => rfl
        | true => exact absurd ((same_iff _ _).1 hh) e
      by_cases h4 : (left (.int .u64 x.1) && (x.2.held == hb)) = true
      · rw [List.filter_cons_of_pos (by simp only [hk]; simpa using h4), List.filter_cons_of_pos (by simpa using h4), List.length_cons, List.length_cons]
        omega
      · rw [List.filter_cons_of_neg (by simp only [hk]; simpa using h4), List.filter_cons_of_neg (by simpa using h4)]
        exact ih
theorem cntL_end (l : List (Int × Past)) (left : Lit → Bool) (h : ∀ k, left k = false) (hb : Bool) : cntL l left hb = 0 := by
  unfold cntL
  rw [List.filter_eq_nil_iff.2 (fun x _ => by rw [h]; simp)]; rfl
theorem cntL_le (l : List (Int × Past)) (left : Lit → Bool) (hb : Bool) : cntL l left hb ≤ l.length := List.length_filter_le _ _
def cnt (l : List (Int × Past)) (hb : Bool) : Nat := (l.filter (fun x => x.2.held == hb)).length
theorem cnt_le (l : List (Int × Past)) (hb : Bool) : cnt l hb ≤ l.length := List.length_filter_le _ _
theorem Lst.hasKey {D : DataW Past} {l : List (Int × Past)} (h : Lst D l) {x : Int × Past} (hx : x ∈ l) : has D (.int .u64 x.1) = true := by
  obtain ⟨es, rfl, hp, hn⟩ := h
  rw [has_eq, List.any_eq_true]
  exact ⟨kv x, hp.mem_iff.2 (List.mem_map.2 ⟨x, hx, rfl⟩), (same_iff _ _).2 rfl⟩
theorem cntL_start {D : DataW Past} {l : List (Int × Past)} (h : Lst D l) (hb : Bool) : cntL l (has D) hb = cnt l hb := by
  unfold cntL cnt
  rw [List.filter_congr (fun x hx => by rw [h.hasKey hx, Bool.true_and])]
theorem Lst.memAt {D : DataW Past} {l : List (Int × Past)} (h : Lst D l) {k : Int} {p : Past} (hat : ∀ zd, D.atKey (.int .u64 k) zd = .held p) : (k, p) ∈ l := by
  have h1 : QLn.look D k = some p := by unfold QLn.look; rw [hat]
  rw [h.look] at h1
  obtain ⟨_, _, _, hn⟩ := h
  exact (lookL_some hn).1 h1
def claimedN (s : LS) : Int := IntKind.i64.wrap (IntKind.u64.wrap (s.tail - s.ready))
def pubN (s : LS) : Int := IntKind.i64.wrap (IntKind.u64.wrap (s.ready - s.head))
def stateA (s : LS) (l : List (Int × Past)) : Array Value := aSt s.left (claimedN s) (pubN s) (cnt l false) (cnt l true) s.epoch
theorem grow_set (w : World) (g o : Nat) (v : Value) : w.grownBy (w.setCell ⟨g, o, none⟩ v) (some g) := ⟨rfl, rfl, rfl, by simp [World.setCell], fun i _ hi => Below.heap_setCell _ _ _ _ (fun e => hi (by rw [e]))⟩
/-- What the loop over the map keeps. -/
def StI (w : World) (s : LS) (l : List (Int × Past)) (g r : Nat) (left : Lit → Bool) (wr : World) : Prop :=
  ∃ a h : Nat, a + cntL l left false = cnt l false ∧ h + cntL l left true = cnt l true ∧ wr.heap[g]? = some (.cells (aSt s.left (claimedN s) (pubN s) a h s.epoch) 42 (0, 0)) ∧ Below w.heap.size w wr ∧ wr.heap[w.heap.size]? = some (.cells (aSt 0 0 0 0 0 0) 42 (0, 0))
set_option maxRecDepth 100000 in
set_option maxHeartbeats 4000000 in
theorem State_calls (b : Nat) (s : LS) (l : List (Int × Past)) (hl : Lst s.D l) (hlen : l.length < 1000000) (hc : 0 < s.credit) (w : World) (h : Ln w b s) : Calls Try.prog 13 #[.pointer (some ⟨b, 0, none⟩)] w fun e w' =>
    e = .returned (.agg (stateA s l)) ∧ Below w.heap.size w w' := by
  have d1 : decide (s.credit > 0) = true := decide_eq_true hc
  have HLS := Aside0.mk hl
  have HLEN := Aside0.mk hlen
  have HB0 := Aside0.mk ((Bd.start h).alloc (.cells (aSt 0 0 0 0 0 0) 42))
  have HW0 : Aside0 (Below w.heap.size w (w.alloc (.cells (aSt 0 0 0 0 0 0) 42))) := ⟨(Below.refl _ _).alloc (Nat.le_refl _) _⟩
  clear h hc hl hlen
  go_enter Try.func13, Try.ntmps13
  go_upto_region 1 with fail
  generalize w.alloc (.cells (aSt 0 0 0 0 0 0) 42) = w1 at HB0 HW0 ⊢
  go_upto_region 3 with (go_at_call 34; refine (is_calls b s _ HB0.out.ln).mono ?_; rintro e1 w2 ⟨rfl, hw2⟩; have HB1 := Aside0.mk (HB0.out.below hw2); have HW1 := Aside0.mk (HW0.out.trans (hw2.mono HW0.out.size)); clear hw2)
  have c2 : w2.cell? ⟨b, 2, none⟩ = some (.int .i64 s.left) := HB1.out.ln.cell 2 (by omega)
  have c6 : w2.cell? ⟨b, 325, none⟩ = some (.int .u64 s.head) := HB1.out.ln.cell 325 (by omega)
  have c7 : w2.cell? ⟨b, 326, none⟩ = some (.int .u64 s.ready) := HB1.out.ln.cell 326 (by omega)
  have c8 : w2.cell? ⟨b, 327, none⟩ = some (.int .u64 s.tail) := HB1.out.ln.cell 327 (by omega)
  have c9 : w2.cell? ⟨b, 328, none⟩ = some (.int .u64 s.epoch) := HB1.out.ln.cell 328 (by omega)
  have HBB : Aside0 (b < w2.heap.size) := ⟨HB1.out.ln.lt⟩
  have HRR : Aside0 (w.heap.size < w2.heap.size) := ⟨(Array.getElem?_eq_some_iff.1 (HB1.out.obj (w.heap.size, _) List.mem_cons_self).1).1⟩
  clear HB0 HW0
  refine wp_region_held_drew (S := fun w' => Below w2.heap.size w2 w') (by kernel_rfl) (pw_below_drewN (Below.refl _ _) 1) (fun hHeld => ?_)
  refine take_at (i := 0) (v := _) 10 rfl rfl (by kernel_rfl) (by kernel_rfl) (by kernel_rfl) (fun _ _ _ h => h) (Or.inl ⟨by rfl, fun w' hW => by have hq0 := (hW.cell HBB.out).trans c2; have hq1 := (hW.cell HBB.out).trans c6; have hq2 := (hW.cell HBB.out).trans c7; have hq3 := (hW.cell HBB.out).trans c8; have hq4 := (hW.cell HBB.out).trans c9; first | (go_simp; done) | (go_simp; with_reducible rfl) | (go_simp; rfl)⟩) hHeld ?_
  try simp only [Act.put, List.setIfInBounds_toArray, List.set_cons_zero, List.set_cons_succ]
  refine take_at (i := 1) (v := _) 11 rfl rfl (by kernel_rfl) (by kernel_rfl) (by kernel_rfl) (fun _ _ _ h => h) (Or.inl ⟨by rfl, fun w' hW => by have hq0 := (hW.cell HBB.out).trans c2; have hq1 := (hW.cell HBB.out).trans c6; have hq2 := (hW.cell HBB.out).trans c7; have hq3 := (hW.cell HBB.out).trans c8; have hq4 := (hW.cell HBB.out).trans c9; first | (go_simp; done) | (go_simp; with_reducible rfl) | (go_simp; rfl)⟩) hHeld ?_
  try simp only [Act.put, List.setIfInBounds_toArray, List.set_cons_zero, List.set_cons_succ]
  refine take_at (i := 2) (v := _) 12 rfl rfl (by kernel_rfl) (by kernel_rfl) (by kernel_rfl) (fun _ _ _ h => h) (Or.inl ⟨by rfl, fun w' hW => by have hq0 := (hW.cell HBB.out).trans c2; have hq1 := (hW.cell HBB.out).trans c6; have hq2 := (hW.cell HBB.out).trans c7; have hq3 := (hW.cell HBB.out).trans c8; have hq4 := (hW.cell HBB.out).trans c9; first | (go_simp; done) | (go_simp; with_reducible rfl) | (go_simp; rfl)⟩) hHeld ?_
  try simp only [Act.put, List.setIfInBounds_toArray, List.set_cons_zero, List.set_cons_succ]
  refine take_at (i := 3) (v := _) 13 rfl rfl (by kernel_rfl) (by kernel_rfl) (by kernel_rfl) (fun _ _ _ h => h) (Or.inl ⟨by rfl, fun w' hW => by have hq0 := (hW.cell HBB.out).trans c2; have hq1 := (hW.cell HBB.out).trans c6; have hq2 := (hW.cell HBB.out).trans c7; have hq3 := (hW.cell HBB.out).trans c8; have hq4 := (hW.cell HBB.out).trans c9; first | (go_simp; done) | (go_simp; with_reducible rfl) | (go_simp; rfl)⟩) hHeld ?_
  try simp only [Act.put, List.setIfInBounds_toArray, List.set_cons_zero, List.set_cons_succ]
  refine take_at (i := 4) (v := _) 14 rfl rfl (by kernel_rfl) (by kernel_rfl) (by kernel_rfl) (fun _ _ _ h => h) (Or.inl ⟨by rfl, fun w' hW => by have hq0 := (hW.cell HBB.out).trans c2; have hq1 := (hW.cell HBB.out).trans c6; have hq2 := (hW.cell HBB.out).trans c7; have hq3 := (hW.cell HBB.out).trans c8; have hq4 := (hW.cell HBB.out).trans c9; first | (go_simp; done) | (go_simp; with_reducible rfl) | (go_simp; rfl)⟩) hHeld ?_
  try simp only [Act.put, List.setIfInBounds_toArray, List.set_cons_zero, List.set_cons_succ]
  refine take_at (i := 5) (v := _) 15 rfl rfl (by kernel_rfl) (by kernel_rfl) (by kernel_rfl) (fun _ _ _ h => h) (Or.inl ⟨by rfl, fun w' hW => by have hq0 := (hW.cell HBB.out).trans c2; have hq1 := (hW.cell HBB.out).trans c6; have hq2 := (hW.cell HBB.out).trans c7; have hq3 := (hW.cell HBB.out).trans c8; have hq4 := (hW.cell HBB.out).trans c9; first | (go_simp; done) | (go_simp; with_reducible rfl) | (go_simp; rfl)⟩) hHeld ?_
  try simp only [Act.put, List.setIfInBounds_toArray, List.set_cons_zero, List.set_cons_succ]
  refine take_at (i := 6) (v := _) 16 rfl rfl (by kernel_rfl) (by kernel_rfl) (by kernel_rfl) (fun _ _ _ h => h) (Or.inl ⟨by rfl, fun w' hW => by have hq0 := (hW.cell HBB.out).trans c2; have hq1 := (hW.cell HBB.out).trans c6; have hq2 := (hW.cell HBB.out).trans c7; have hq3 := (hW.cell HBB.out).trans c8; have hq4 := (hW.cell HBB.out).trans c9; first | (go_simp; done) | (go_simp; with_reducible rfl) | (go_simp; rfl)⟩) hHeld ?_
  try simp only [Act.put, List.setIfInBounds_toArray, List.set_cons_zero, List.set_cons_succ]
  refine take_at (i := 7) (v := _) 17 rfl rfl (by kernel_rfl) (by kernel_rfl) (by kernel_rfl) (fun _ _ _ h => h) (Or.inl ⟨by rfl, fun w' hW => by have hq0 := (hW.cell HBB.out).trans c2; have hq1 := (hW.cell HBB.out).trans c6; have hq2 := (hW.cell HBB.out).trans c7; have hq3 := (hW.cell HBB.out).trans c8; have hq4 := (hW.cell HBB.out).trans c9; first | (go_simp; done) | (go_simp; with_reducible rfl) | (go_simp; rfl)⟩) hHeld ?_
  try simp only [Act.put, List.setIfInBounds_toArray, List.set_cons_zero, List.set_cons_succ]
  refine take_at (i := 8) (v := _) 18 rfl rfl (by kernel_rfl) (by kernel_rfl) (by kernel_rfl) (fun _ _ _ h => h) (Or.inl ⟨by rfl, fun w' hW => by have hq0 := (hW.cell HBB.out).trans c2; have hq1 := (hW.cell HBB.out).trans c6; have hq2 := (hW.cell HBB.out).trans c7; have hq3 := (hW.cell HBB.out).trans c8; have hq4 := (hW.cell HBB.out).trans c9; first | (go_simp; done) | (go_simp; with_reducible rfl) | (go_simp; rfl)⟩) hHeld ?_
  try simp only [Act.put, List.setIfInBounds_toArray, List.set_cons_zero, List.set_cons_succ]
  refine take_at (i := 9) (v := _) 19 rfl rfl (by kernel_rfl) (by kernel_rfl) (by kernel_rfl) (fun _ _ _ h => h) (Or.inl ⟨by rfl, fun w' hW => by have hq0 := (hW.cell HBB.out).trans c2; have hq1 := (hW.cell HBB.out).trans c6; have hq2 := (hW.cell HBB.out).trans c7; have hq3 := (hW.cell HBB.out).trans c8; have hq4 := (hW.cell HBB.out).trans c9; first | (go_simp; done) | (go_simp; with_reducible rfl) | (go_simp; rfl)⟩) hHeld ?_
  try simp only [Act.put, List.setIfInBounds_toArray, List.set_cons_zero, List.set_cons_succ]
  refine take_at (i := 10) (v := _) 20 rfl rfl (by kernel_rfl) (by kernel_rfl) (by kernel_rfl) (fun _ _ _ h => h) (Or.inl ⟨by rfl, fun w' hW => by have hq0 := (hW.cell HBB.out).trans c2; have hq1 := (hW.cell HBB.out).trans c6; have hq2 := (hW.cell HBB.out).trans c7; have hq3 := (hW.cell HBB.out).trans c8; have hq4 := (hW.cell HBB.out).trans c9; first | (go_simp; done) | (go_simp; with_reducible rfl) | (go_simp; rfl)⟩) hHeld ?_
  try simp only [Act.put, List.setIfInBounds_toArray, List.set_cons_zero, List.set_cons_succ]
  refine take_at (i := 11) (v := _) 21 rfl rfl (by kernel_rfl) (by kernel_rfl) (by kernel_rfl) (fun _ _ _ h => h) (Or.inl ⟨by rfl, fun w' hW => by have hq0 := (hW.cell HBB.out).trans c2; have hq1 := (hW.cell HBB.out).trans c6; have hq2 := (hW.cell HBB.out).trans c7; have hq3 := (hW.cell HBB.out).trans c8; have hq4 := (hW.cell HBB.out).trans c9; first | (go_simp; done) | (go_simp; with_reducible rfl) | (go_simp; rfl)⟩) hHeld ?_
  try simp only [Act.put, List.setIfInBounds_toArray, List.set_cons_zero, List.set_cons_succ]
  refine take_at (i := 12) (v := _) 22 rfl rfl (by kernel_rfl) (by kernel_rfl) (by kernel_rfl) (fun _ _ _ h => h) (Or.inl ⟨by rfl, fun w' hW => by have hq0 := (hW.cell HBB.out).trans c2; have hq1 := (hW.cell HBB.out).trans c6; have hq2 := (hW.cell HBB.out).trans c7; have hq3 := (hW.cell HBB.out).trans c8; have hq4 := (hW.cell HBB.out).trans c9; first | (go_simp; done) | (go_simp; with_reducible rfl) | (go_simp; rfl)⟩) hHeld ?_
  try simp only [Act.put, List.setIfInBounds_toArray, List.set_cons_zero, List.set_cons_succ]
  refine take_at (i := 13) (v := _) 23 rfl rfl (by kernel_rfl) (by kernel_rfl) (by kernel_rfl) (fun _ _ _ h => h) (Or.inl ⟨by rfl, fun w' hW => by have hq0 := (hW.cell HBB.out).trans c2; have hq1 := (hW.cell HBB.out).trans c6; have hq2 := (hW.cell HBB.out).trans c7; have hq3 := (hW.cell HBB.out).trans c8; have hq4 := (hW.cell HBB.out).trans c9; first | (go_simp; done) | (go_simp; with_reducible rfl) | (go_simp; rfl)⟩) hHeld ?_
  try simp only [Act.put, List.setIfInBounds_toArray, List.set_cons_zero, List.set_cons_succ]
  refine take_at (i := 14) (v := _) 24 rfl rfl (by kernel_rfl) (by kernel_rfl) (by kernel_rfl) (fun _ _ _ h => h) (Or.inl ⟨by rfl, fun w' hW => by have hq0 := (hW.cell HBB.out).trans c2; have hq1 := (hW.cell HBB.out).trans c6; have hq2 := (hW.cell HBB.out).trans c7; have hq3 := (hW.cell HBB.out).trans c8; have hq4 := (hW.cell HBB.out).trans c9; first | (go_simp; done) | (go_simp; with_reducible rfl) | (go_simp; rfl)⟩) hHeld ?_
  try simp only [Act.put, List.setIfInBounds_toArray, List.set_cons_zero, List.set_cons_succ]
  refine take_at (i := 15) (v := _) 25 rfl rfl (by kernel_rfl) (by kernel_rfl) (by kernel_rfl) (fun _ _ _ h => h) (Or.inl ⟨by rfl, fun w' hW => by have hq0 := (hW.cell HBB.out).trans c2; have hq1 := (hW.cell HBB.out).trans c6; have hq2 := (hW.cell HBB.out).trans c7; have hq3 := (hW.cell HBB.out).trans c8; have hq4 := (hW.cell HBB.out).trans c9; first | (go_simp; done) | (go_simp; with_reducible rfl) | (go_simp; rfl)⟩) hHeld ?_
  try simp only [Act.put, List.setIfInBounds_toArray, List.set_cons_zero, List.set_cons_succ]
  refine take_at (i := 16) (v := _) 26 rfl rfl (by kernel_rfl) (by kernel_rfl) (by kernel_rfl) (fun _ _ _ h => h) (Or.inl ⟨by rfl, fun w' hW => by have hq0 := (hW.cell HBB.out).trans c2; have hq1 := (hW.cell HBB.out).trans c6; have hq2 := (hW.cell HBB.out).trans c7; have hq3 := (hW.cell HBB.out).trans c8; have hq4 := (hW.cell HBB.out).trans c9; first | (go_simp; done) | (go_simp; with_reducible rfl) | (go_simp; rfl)⟩) hHeld ?_
  try simp only [Act.put, List.setIfInBounds_toArray, List.set_cons_zero, List.set_cons_succ]
  refine take_at (i := 17) (v := _) 27 rfl rfl (by kernel_rfl) (by kernel_rfl) (by kernel_rfl) (fun _ _ _ h => h) (Or.inl ⟨by rfl, fun w' hW => by have hq0 := (hW.cell HBB.out).trans c2; have hq1 := (hW.cell HBB.out).trans c6; have hq2 := (hW.cell HBB.out).trans c7; have hq3 := (hW.cell HBB.out).trans c8; have hq4 := (hW.cell HBB.out).trans c9; first | (go_simp; done) | (go_simp; with_reducible rfl) | (go_simp; rfl)⟩) hHeld ?_
  try simp only [Act.put, List.setIfInBounds_toArray, List.set_cons_zero, List.set_cons_succ]
  refine take_at (i := 18) (v := _) 28 rfl rfl (by kernel_rfl) (by kernel_rfl) (by kernel_rfl) (fun _ _ _ h => h) (Or.inl ⟨by rfl, fun w' hW => by have hq0 := (hW.cell HBB.out).trans c2; have hq1 := (hW.cell HBB.out).trans c6; have hq2 := (hW.cell HBB.out).trans c7; have hq3 := (hW.cell HBB.out).trans c8; have hq4 := (hW.cell HBB.out).trans c9; first | (go_simp; done) | (go_simp; with_reducible rfl) | (go_simp; rfl)⟩) hHeld ?_
  try simp only [Act.put, List.setIfInBounds_toArray, List.set_cons_zero, List.set_cons_succ]
  refine take_at (i := 19) (v := _) 29 rfl rfl (by kernel_rfl) (by kernel_rfl) (by kernel_rfl) (fun _ _ _ h => h) (Or.inl ⟨by rfl, fun w' hW => by have hq0 := (hW.cell HBB.out).trans c2; have hq1 := (hW.cell HBB.out).trans c6; have hq2 := (hW.cell HBB.out).trans c7; have hq3 := (hW.cell HBB.out).trans c8; have hq4 := (hW.cell HBB.out).trans c9; first | (go_simp; done) | (go_simp; with_reducible rfl) | (go_simp; rfl)⟩) hHeld ?_
  try simp only [Act.put, List.setIfInBounds_toArray, List.set_cons_zero, List.set_cons_succ]
  refine take_at (i := 20) (v := _) 30 rfl rfl (by kernel_rfl) (by kernel_rfl) (by kernel_rfl) (fun _ _ _ h => h) (Or.inl ⟨by rfl, fun w' hW => by have hq0 := (hW.cell HBB.out).trans c2; have hq1 := (hW.cell HBB.out).trans c6; have hq2 := (hW.cell HBB.out).trans c7; have hq3 := (hW.cell HBB.out).trans c8; have hq4 := (hW.cell HBB.out).trans c9; first | (go_simp; done) | (go_simp; with_reducible rfl) | (go_simp; rfl)⟩) hHeld ?_
  try simp only [Act.put, List.setIfInBounds_toArray, List.set_cons_zero, List.set_cons_succ]
  refine take_at (i := 21) (v := _) 31 rfl rfl (by kernel_rfl) (by kernel_rfl) (by kernel_rfl) (fun _ _ _ h => h) (Or.inl ⟨by rfl, fun w' hW => by have hq0 := (hW.cell HBB.out).trans c2; have hq1 := (hW.cell HBB.out).trans c6; have hq2 := (hW.cell HBB.out).trans c7; have hq3 := (hW.cell HBB.out).trans c8; have hq4 := (hW.cell HBB.out).trans c9; first | (go_simp; done) | (go_simp; with_reducible rfl) | (go_simp; rfl)⟩) hHeld ?_
  try simp only [Act.put, List.setIfInBounds_toArray, List.set_cons_zero, List.set_cons_succ]
  refine take_at (i := 22) (v := _) 32 rfl rfl (by kernel_rfl) (by kernel_rfl) (by kernel_rfl) (fun _ _ _ h => h) (Or.inl ⟨by rfl, fun w' hW => by have hq0 := (hW.cell HBB.out).trans c2; have hq1 := (hW.cell HBB.out).trans c6; have hq2 := (hW.cell HBB.out).trans c7; have hq3 := (hW.cell HBB.out).trans c8; have hq4 := (hW.cell HBB.out).trans c9; first | (go_simp; done) | (go_simp; with_reducible rfl) | (go_simp; rfl)⟩) hHeld ?_
  try simp only [Act.put, List.setIfInBounds_toArray, List.set_cons_zero, List.set_cons_succ]
  refine take_at (i := 23) (v := _) 33 rfl rfl (by kernel_rfl) (by kernel_rfl) (by kernel_rfl) (fun _ _ _ h => h) (Or.inl ⟨by rfl, fun w' hW => by have hq0 := (hW.cell HBB.out).trans c2; have hq1 := (hW.cell HBB.out).trans c6; have hq2 := (hW.cell HBB.out).trans c7; have hq3 := (hW.cell HBB.out).trans c8; have hq4 := (hW.cell HBB.out).trans c9; first | (go_simp; done) | (go_simp; with_reducible rfl) | (go_simp; rfl)⟩) hHeld ?_
  try simp only [Act.put, List.setIfInBounds_toArray, List.set_cons_zero, List.set_cons_succ]
  refine take_at (i := 24) (v := _) 34 rfl rfl (by kernel_rfl) (by kernel_rfl) (by kernel_rfl) (fun _ _ _ h => h) (Or.inl ⟨by rfl, fun w' hW => by have hq0 := (hW.cell HBB.out).trans c2; have hq1 := (hW.cell HBB.out).trans c6; have hq2 := (hW.cell HBB.out).trans c7; have hq3 := (hW.cell HBB.out).trans c8; have hq4 := (hW.cell HBB.out).trans c9; first | (go_simp; done) | (go_simp; with_reducible rfl) | (go_simp; rfl)⟩) hHeld ?_
  try simp only [Act.put, List.setIfInBounds_toArray, List.set_cons_zero, List.set_cons_succ]
  refine take_at (i := 25) (v := _) 35 rfl rfl (by kernel_rfl) (by kernel_rfl) (by kernel_rfl) (fun _ _ _ h => h) (Or.inl ⟨by rfl, fun w' hW => by have hq0 := (hW.cell HBB.out).trans c2; have hq1 := (hW.cell HBB.out).trans c6; have hq2 := (hW.cell HBB.out).trans c7; have hq3 := (hW.cell HBB.out).trans c8; have hq4 := (hW.cell HBB.out).trans c9; first | (go_simp; done) | (go_simp; with_reducible rfl) | (go_simp; rfl)⟩) hHeld ?_
  try simp only [Act.put, List.setIfInBounds_toArray, List.set_cons_zero, List.set_cons_succ]
  refine take_at (i := 26) (v := _) 36 rfl rfl (by kernel_rfl) (by kernel_rfl) (by kernel_rfl) (fun _ _ _ h => h) (Or.inl ⟨by rfl, fun w' hW => by have hq0 := (hW.cell HBB.out).trans c2; have hq1 := (hW.cell HBB.out).trans c6; have hq2 := (hW.cell HBB.out).trans c7; have hq3 := (hW.cell HBB.out).trans c8; have hq4 := (hW.cell HBB.out).trans c9; first | (go_simp; done) | (go_simp; with_reducible rfl) | (go_simp; rfl)⟩) hHeld ?_
  try simp only [Act.put, List.setIfInBounds_toArray, List.set_cons_zero, List.set_cons_succ]
  refine take_at (i := 27) (v := _) 37 rfl rfl (by kernel_rfl) (by kernel_rfl) (by kernel_rfl) (fun _ _ _ h => h) (Or.inl ⟨by rfl, fun w' hW => by have hq0 := (hW.cell HBB.out).trans c2; have hq1 := (hW.cell HBB.out).trans c6; have hq2 := (hW.cell HBB.out).trans c7; have hq3 := (hW.cell HBB.out).trans c8; have hq4 := (hW.cell HBB.out).trans c9; first | (go_simp; done) | (go_simp; with_reducible rfl) | (go_simp; rfl)⟩) hHeld ?_
  try simp only [Act.put, List.setIfInBounds_toArray, List.set_cons_zero, List.set_cons_succ]
  refine take_at (i := 28) (v := _) 38 rfl rfl (by kernel_rfl) (by kernel_rfl) (by kernel_rfl) (fun _ _ _ h => h) (Or.inl ⟨by rfl, fun w' hW => by have hq0 := (hW.cell HBB.out).trans c2; have hq1 := (hW.cell HBB.out).trans c6; have hq2 := (hW.cell HBB.out).trans c7; have hq3 := (hW.cell HBB.out).trans c8; have hq4 := (hW.cell HBB.out).trans c9; first | (go_simp; done) | (go_simp; with_reducible rfl) | (go_simp; rfl)⟩) hHeld ?_
  try simp only [Act.put, List.setIfInBounds_toArray, List.set_cons_zero, List.set_cons_succ]
  clear hHeld
  refine wpAnyH_ready (rs := [29]) (by kernel_rfl) (by simp) ?_
  refine AllReadyH.cons rfl (fun K hK => ?_) AllReadyH.nil
  go_simp
  have HB3 : Aside0 (Bd b s.mb w s [(w2.heap.size, .cells (aSt 0 0 0 0 0 0) 42), (w.heap.size, .cells (aSt 0 0 0 0 0 0) 42)] ((w2.drew).alloc (.cells (aSt 0 0 0 0 0 0) 42))) := ⟨(HB1.out.below (Below.refl _ _).drew).alloc _⟩
  have HS3 : Aside0 (Below w2.heap.size w2 ((w2.drew).alloc (.cells (aSt 0 0 0 0 0 0) 42))) := ⟨(Below.refl _ _).drew.alloc (Nat.le_refl _) _⟩
  try change K _ ((w2.drew).alloc (.cells (aSt 0 0 0 0 0 0) 42))
  generalize (w2.drew).alloc (.cells (aSt 0 0 0 0 0 0) 42) = w4 at HB3 HS3 ⊢
  refine hK.out _ _ HS3.out (fun hHeld => ?_)
  clear hK K
  try simp only [Act.put, List.setIfInBounds_toArray, List.set_cons_zero, List.set_cons_succ]
  clear hHeld
  have hb3 := (HB3.out.obj (w2.heap.size, _) List.mem_cons_self).1
  refine wpAnyH_ready (rs := [30]) (by kernel_rfl) (by simp) ?_
  refine AllReadyH.cons rfl (fun K hK => ?_) AllReadyH.nil
  rw [if_pos (by rfl)]
  refine store_at rfl 42 (.tmp 3) (.tmp 38) rfl w2.heap.size 0 (aSt s.left (claimedN s) (pubN s) 0 0 s.epoch) rfl rfl (there_of_block hb3 0 6 (by simp)) (by kernel_rfl) (by simp [Value.oneCell']) ?_
  have HB4 : Aside0 (Bd b s.mb w s [(w2.heap.size, .cells (aSt s.left (claimedN s) (pubN s) 0 0 s.epoch) 42), (w.heap.size, .cells (aSt 0 0 0 0 0 0) 42)] (w4.setCells w2.heap.size 0 (aSt s.left (claimedN s) (pubN s) 0 0 s.epoch).toList)) := ⟨HB3.out.box w2.heap.size _ 42 List.mem_cons_self 0 _ (fun x hx => by
    simp only [List.mem_cons, List.not_mem_nil, or_false] at hx
    rcases hx with rfl | rfl
    · exact Or.inl rfl
    · exact Or.inr ⟨by simp, by have := HRR.out; simp only; omega⟩)⟩
  have HS4 : Aside0 (Below w2.heap.size w2 (w4.setCells w2.heap.size 0 (aSt s.left (claimedN s) (pubN s) 0 0 s.epoch).toList)) := ⟨below_setCells (Nat.le_refl _) _ _ _ HS3.out⟩
  clear hb3 HB3 HS3
  generalize w4.setCells w2.heap.size 0 (aSt s.left (claimedN s) (pubN s) 0 0 s.epoch).toList = w5 at HB4 HS4 ⊢
  refine hK.out _ _ HS4.out (fun hHeld => ?_)
  clear hK K
  try simp only [Act.put, List.setIfInBounds_toArray, List.set_cons_zero, List.set_cons_succ]
  refine wpAnyH_done (by kernel_rfl) ?_ _
  clear hHeld
  have HW4 : Aside0 (Below w.heap.size w w5) := ⟨HW1.out.trans (HS4.out.mono HW1.out.size)⟩
  have HGG : Aside0 (w2.heap.size < w5.heap.size) := ⟨(Array.getElem?_eq_some_iff.1 (HB4.out.obj (w2.heap.size, _) List.mem_cons_self).1).1⟩
  clear HB1 HW1 HS4 c2 c6 c7 c8 c9 HBB
  generalize w2.heap.size = g at HB4 HRR HGG ⊢
  have c10 : w5.cell? ⟨b, 329, none⟩ = some (.map (some s.mb)) := HB4.out.ln.cell 329 (by omega)
  have hown : w5.ownsMap Try.prog 22 Rp s.mb s.n s.D := HB4.out.ln.map
  have HMB : Aside0 (s.mb < w.heap.size) := ⟨HB4.out.hm⟩
  go_wp2_with (first | (at_range; refine wpList_range_own _ rfl _ 65 rfl 22 79 keyed Try.underlying65 Rp s.mb s.n s.D rfl hown ?_; intro w0 hrg0 hg0 hs0; have HRG0 := Aside0.mk (And.intro hrg0 (And.intro hg0 hs0)); clear hrg0 hg0 hs0))
  have H0 : Aside0 (StI w s l g w5.heap.size (has s.D) w0) := ⟨0, 0, by rw [cntL_start HLS.out, Nat.zero_add], by rw [cntL_start HLS.out, Nat.zero_add],
    (HRG0.out.2.1.block g HGG.out (by simp)).trans (HB4.out.obj (g, _) List.mem_cons_self).1, HW4.out.grown HRG0.out.2.1 HW4.out.size (fun k e => by cases e),
    (HRG0.out.2.1.block w.heap.size (Nat.lt_of_lt_of_le HRR.out (Nat.le_of_lt HGG.out)) (by simp)).trans (HB4.out.obj (w.heap.size, .cells (aSt 0 0 0 0 0 0) 42) (by simp)).1⟩
  have HRL : Aside0 (g < w5.heap.size ∧ w.heap.size < g) := ⟨HGG.out, HRR.out⟩
  have H1 := Aside0.mk HRG0.out.1
  clear HRG0 hown c10
  generalize w5.heap.size = r at H0 H1 HRL ⊢
  clear HB4 HGG HRR
  go_frame
  go_loopw [5] (fun x5 wr => ∃ (left : Lit → Bool) (c : Nat), Aside0 (wr.ranges Try.prog 22 Rp s.mb r s.n s.D left c ∧ StI w s l g r left wr)) (fun _ wr => wr.rangeLeft s.mb r)
  case atStart => exact ⟨_, _, ⟨H1.out, H0.out⟩⟩
  case round =>
    clear H0 H1
    obtain ⟨left, c, HR⟩ := hrel
    have hrg := HR.out.1
    go_wp2_with (first | (at_next; refine wpList_next_ranges _ rfl _ rfl 22 keyed Rp (Value.int .u64) Past.v (fun key kl hk => by obtain ⟨x, hx, _⟩ := Go.Maps.keyOf_int_inv Try.underlying22 hk; exact ⟨x, hx⟩) (fun v y hv => by obtain ⟨p, hp, _⟩ := Rp_inv hv; exact ⟨p, hp⟩) s.mb r s.n _ _ _ rfl hrg ?_ ?_))
    · intro hc0 hl0
      obtain ⟨a, h, ha, hh, hg, hb, hr⟩ := HR.out.2
      rw [cntL_end l left hl0, Nat.add_zero] at ha hh
      subst ha hh
      have HB := Aside0.mk hb
      clear hb HR hrg hl0 hc0
      go_wp2_with (first | ((with_reducible refine gate_ (.load 42 (.tmp 3)) rfl ?_); refine load_blk rfl 42 (.tmp 3) rfl g (stateA s l) 42 rfl _ hg Try.underlying42 rfl (by kernel_rfl) ?_) | ((with_reducible refine gate_store (t := 42) (p := 2) rfl ?_); refine store_blk rfl 42 (.tmp 2) (.tmp 58) rfl w.heap.size 0 (stateA s l) (aSt 0 0 0 0 0 0) 42 rfl rfl hr (by simp [stateA]) (by kernel_rfl) (by simp [stateA, Value.oneCell']) ?_; intro w9 hw9 hr9; have HW9 := Aside0.mk (And.intro hw9 hr9); clear hw9 hr9))
      exact bodyPost_ret (results_cell_row (P := Try.prog) rfl _ _ w.heap.size 42 (stateA s l) (0, 0) _ rfl HW9.out.2 Try.underlying42 rfl (by kernel_rfl)) rfl ⟨rfl, by rw [HW9.out.1]; exact below_setCells (Nat.le_refl _) _ _ _ HB.out⟩
    · intro x c1 kl yd yp w2 cnt2 hkey hlk hv hat hrg2 hlt hg2 hs2 hen
      obtain ⟨x', ex, rfl, _⟩ := Go.Maps.keyOf_int_inv Try.underlying22 hkey
      have exx : x = x' := by injection ex
      subst exx
      have hmem : (x, c1) ∈ l := HLS.out.memAt (fun zd => by have := hat zd; rw [Rp_v] at hv; cases hv; exact this)
      have hnd : (l.map Prod.fst).Nodup := by obtain ⟨_, _, _, hn⟩ := HLS.out; exact hn
      have HS0 := Aside0.mk (cntL_step l left x c1 hnd hmem hlk false)
      have HS1 := Aside0.mk (cntL_step l left x c1 hnd hmem hlk true)
      obtain ⟨a, h, ha, hh, hg, hb, hr⟩ := HR.out.2
      have HA := Aside0.mk ha
      have HH := Aside0.mk hh
      have HBD : Aside0 (a < 1000000 ∧ h < 1000000) := ⟨by have := cnt_le l false; have := cnt_le l true; have := HLEN.out; omega⟩
      have hgl := hrg.lt
      have HG2 : Aside0 (w2.heap[g]? = some (.cells (aSt s.left (claimedN s) (pubN s) a h s.epoch) 42 (0, 0)) ∧ Below w.heap.size w w2 ∧ w2.heap[w.heap.size]? = some (.cells (aSt 0 0 0 0 0 0) 42 (0, 0)) ∧ r < w2.heap.size) :=
        ⟨(hg2.block g (Array.getElem?_eq_some_iff.1 hg).1 (fun e => by cases e; have := HRL.out; omega)).trans hg, hb.grown hg2 hb.size (fun k e => by cases e; have := HRL.out; omega),
          (hg2.block _ (Array.getElem?_eq_some_iff.1 hr).1 (fun e => by injection e with e; have := HRL.out; omega)).trans hr, by rw [hs2]; exact hgl⟩
      have HRG2 := Aside0.mk hrg2
      have HLT := Aside0.mk hlt
      clear ha hh hg hb hr hg2 hs2 hkey hlk hv hat hmem hnd hrg2 hgl HR hlt ex
      obtain ⟨pn, pg, hd⟩ := c1
      simp only [Past.v] at hen ⊢
      go_upto_region 7 with fail
      have HK : Aside0 ((w2.alloc (.cells #[.int .i64 pn, .int .u64 pg, .bool hd] 79)).cell? ⟨w2.heap.size, 2, none⟩ = some (.bool hd)) := ⟨cell_new _ _ _ _⟩
      have HRG3 : Aside0 ((w2.alloc (.cells #[.int .i64 pn, .int .u64 pg, .bool hd] 79)).ranges Try.prog 22 Rp s.mb r s.n s.D (fun z => left z && !z.sameKey (.int .u64 x)) cnt2) := ⟨HRG2.out.alloc _⟩
      have HGB : Aside0 ((w2.alloc (.cells #[.int .i64 pn, .int .u64 pg, .bool hd] 79)).heap[g]? = some (.cells (aSt s.left (claimedN s) (pubN s) a h s.epoch) 42 (0, 0))) := ⟨obj_below ((Below.refl _ _).alloc (Nat.le_refl _) _) HG2.out.1⟩
      have HBW : Aside0 (Below w.heap.size w (w2.alloc (.cells #[.int .i64 pn, .int .u64 pg, .bool hd] 79))) := ⟨HG2.out.2.1.alloc HG2.out.2.1.size _⟩
      have HRB : Aside0 ((w2.alloc (.cells #[.int .i64 pn, .int .u64 pg, .bool hd] 79)).heap[w.heap.size]? = some (.cells (aSt 0 0 0 0 0 0) 42 (0, 0))) := ⟨obj_below ((Below.refl _ _).alloc (Nat.le_refl _) _) HG2.out.2.2.1⟩
      clear HG2 HRG2 hen
      generalize w2.alloc (.cells #[.int .i64 pn, .int .u64 pg, .bool hd] 79) = w3 at HK HRG3 HGB HBW HRB ⊢
      generalize w2.heap.size = g5 at HK ⊢
      cases hd
      · have k49 : w3.cell? ⟨g5, 2, none⟩ = some (.bool false) := HK.out
        have k4 : w3.cell? ⟨g, 3, none⟩ = some (.int .i64 (a : Int)) := by simp only [World.cell?, HGB.out]; rfl
        have f4 : w3.frozen? ⟨g, 3, none⟩ = false := by simp [World.frozen?, HGB.out]
        have hw : wrap64 ((a : Int) + 1) = (a : Int) + 1 := by have := HBD.out; unfold wrap64; omega
        go_wp2
        have hrg4 : (w3.setCell ⟨g, 3, none⟩ (.int .i64 ((a : Int) + 1))).ranges Try.prog 22 Rp s.mb r s.n s.D (fun z => left z && !z.sameKey (.int .u64 x)) cnt2 := HRG3.out.kept (grow_set w3 g 3 _) (fun e => by cases e; have := HMB.out; have := HRL.out; omega) (fun e => by cases e; have := HRL.out; omega)
        go_roundw
        case rel => exact ⟨_, cnt2, ⟨hrg4, a + 1, h, by have := HS0.out; have := HA.out; simp at *; omega, by have := HS1.out; have := HH.out; simp at *; omega, (blk_set HGB.out 3 _).trans (by simp [aSt]), HBW.out.setCell (p := ⟨g, 3, none⟩) (by have := HRL.out; simp only; omega) _, (Below.heap_setCell _ _ _ _ (by have := HRL.out; simp only; omega)).trans HRB.out⟩⟩
        case measure => rw [hrg4.left_eq, hrg.left_eq]; exact HLT.out
      · have k49 : w3.cell? ⟨g5, 2, none⟩ = some (.bool true) := HK.out
        have k4 : w3.cell? ⟨g, 4, none⟩ = some (.int .i64 (h : Int)) := by simp only [World.cell?, HGB.out]; rfl
        have f4 : w3.frozen? ⟨g, 4, none⟩ = false := by simp [World.frozen?, HGB.out]
        have hw : wrap64 ((h : Int) + 1) = (h : Int) + 1 := by have := HBD.out; unfold wrap64; omega
        go_wp2
        have hrg4 : (w3.setCell ⟨g, 4, none⟩ (.int .i64 ((h : Int) + 1))).ranges Try.prog 22 Rp s.mb r s.n s.D (fun z => left z && !z.sameKey (.int .u64 x)) cnt2 := HRG3.out.kept (grow_set w3 g 4 _) (fun e => by cases e; have := HMB.out; have := HRL.out; omega) (fun e => by cases e; have := HRL.out; omega)
        go_roundw
        case rel => exact ⟨_, cnt2, ⟨hrg4, a, h + 1, by have := HS0.out; have := HA.out; simp at *; omega, by have := HS1.out; have := HH.out; simp at *; omega, (blk_set HGB.out 4 _).trans (by simp [aSt]), HBW.out.setCell (p := ⟨g, 4, none⟩) (by have := HRL.out; simp only; omega) _, (Below.heap_setCell _ _ _ _ (by have := HRL.out; simp only; omega)).trans HRB.out⟩⟩
        case measure => rw [hrg4.left_eq, hrg.left_eq]; exact HLT.out
end Go.Proofs.Ytglekbbdbnpohaa.QLn
