/- Agenda: AgendaRuns. Written by a program of this repo (tools/gen_ag17.py). -/
import Derived.Test.YthjppjcmapgkpaaTKAg
namespace Go.Proofs.Ythjppjcmapgkpaa.QAg
open Go.RowKit Go.Maps Go.Proofs.YthjppjcmapgkpaaW.PrintWords Go.Proofs.YthjppjcmapgkpaaW.PrintLast Go.Proofs.YthjppjcmapgkpaaW.PrintMore
set_option linter.unusedVariables false
set_option linter.unusedSimpArgs false
def ThOk (x : S27) : Prop := (Lit.int .i8 x.f0).wf = true ∧ (Lit.int .i64 x.f1).wf = true
def OpOk (x : S35) : Prop := (Lit.int .i64 x.f0).wf = true ∧ ThOk x.f1 ∧ (Lit.int .i64 x.f2).wf = true ∧ (Lit.int .i64 x.f3).wf = true
theorem o_mem {l : List S35} {i : Nat} (h : i < l.length) : rd_T35 l (i : Int) ∈ l := by
  unfold rd_T35
  rw [Int.toNat_natCast, List.getD_eq_getElem?_getD, List.getElem?_eq_getElem h]
  exact List.getElem_mem h
/-- What the loops of the laws keep. -/
def RunI (W : World) (b mb B rb C : Nat) (j : Nat) (wr : World) : Prop := ∃ nx M, nx ≤ (j : Int) + 1 ∧ Bo W b mb B rb C nx M wr
theorem run_start {W w1 : World} (hl : Below W.heap.size W w1) (hx : Ax w1 (W.heap.size + 1) W.heap.size (W.heap.size + 2) 1 []) : RunI W (W.heap.size + 1) W.heap.size (W.heap.size + 2) w1.heap.size (w1.heap.size + 1) 0 (w1.alloc (.cells #[.slice none 0 0, .int .i64 0] 32)) := by
  have h1 : Below w1.heap.size w1 (w1.alloc (.cells #[.slice none 0 0, .int .i64 0] 32)) := (Below.refl _ _).alloc (Nat.le_refl _) _
  refine ⟨1, [], by omega, ⟨hx.below h1, ⟨.slice none 0 0, ⟨World.alloc_heap_new _ _, RowQ.nil _ _ _ _, by omega, by rw [size_alloc1]; exact Nat.le_refl _, by decide⟩⟩, hl.trans (h1.mono hl.size), ?_⟩⟩
  have := hl.size
  refine ⟨by omega, by omega, by omega, by omega⟩
theorem fir_ex (M : List En) : ∃ (kf mf idf : Int) (okf : Bool), (best M = none → kf = 0 ∧ mf = 0 ∧ idf = 0 ∧ okf = false) ∧ (∀ x, best M = some x → kf = x.key ∧ mf = x.mark ∧ idf = x.id ∧ okf = true) := by
  cases hb : best M with
  | none => exact ⟨0, 0, 0, false, fun _ => ⟨rfl, rfl, rfl, rfl⟩, fun x hx => (by cases hx)⟩
  | some x => exact ⟨x.key, x.mark, x.id, true, fun hc => (by cases hc), fun y hy => (by cases hy; exact ⟨rfl, rfl, rfl, rfl⟩)⟩
theorem at_ex (M : List En) (id : Int) : ∃ (kg mg : Int) (okg : Bool), (atM M id = none → kg = 0 ∧ mg = 0 ∧ okg = false) ∧ (∀ x, atM M id = some x → kg = x.key ∧ mg = x.mark ∧ okg = true) := by
  cases hb : atM M id with
  | none => exact ⟨0, 0, false, fun _ => ⟨rfl, rfl, rfl⟩, fun x hx => (by cases hx)⟩
  | some x => exact ⟨x.key, x.mark, true, fun hc => (by cases hc), fun y hy => (by cases hy; exact ⟨rfl, rfl, rfl⟩)⟩
theorem First_any {w : World} {b mb B : Nat} {nx : Int} {M : List En} (h : Ax w b mb B nx M) {kf mf idf : Int} {okf : Bool} (hf : (best M = none → kf = 0 ∧ mf = 0 ∧ idf = 0 ∧ okf = false) ∧ (∀ x, best M = some x → kf = x.key ∧ mf = x.mark ∧ idf = x.id ∧ okf = true)) : Calls Try.prog 19 #[.pointer (some ⟨b, 0, none⟩)] w fun r w' => r = .returned (.tuple #[.agg (aT kf mf), .int .i64 idf, .bool okf]) ∧ Below w.heap.size w w' := by
  cases hb : best M with
  | none =>
    obtain ⟨rfl, rfl, rfl, rfl⟩ := hf.1 hb
    have := best_none h.inc hb
    subst this
    exact First_none h
  | some x =>
    obtain ⟨rfl, rfl, rfl, rfl⟩ := hf.2 x hb
    exact First_some h hb
theorem RFirst_any {w : World} {rb B : Nat} {r : RS} {v : Value} (h : RL w rb B r v) {kf mf idf : Int} {okf : Bool} (hf : (best r.L = none → kf = 0 ∧ mf = 0 ∧ idf = 0 ∧ okf = false) ∧ (∀ x, best r.L = some x → kf = x.key ∧ mf = x.mark ∧ idf = x.id ∧ okf = true)) : Calls Try.prog 20 #[.pointer (some ⟨rb, 0, none⟩)] w fun r w' => r = .returned (.tuple #[.agg (aT kf mf), .int .i64 idf, .bool okf]) ∧ Below w.heap.size w w' := by
  refine (RFirst_calls h).mono ?_
  rintro e w' ⟨(⟨x, hb, rfl⟩ | ⟨hb, rfl⟩), hl⟩
  · obtain ⟨rfl, rfl, rfl, rfl⟩ := hf.2 x hb
    exact ⟨rfl, hl⟩
  · obtain ⟨rfl, rfl, rfl, rfl⟩ := hf.1 hb
    exact ⟨rfl, hl⟩
theorem Get_any {w : World} {b mb B : Nat} {nx : Int} {M : List En} (h : Ax w b mb B nx M) {id : Int} (hk : (Lit.int .i64 id).wf = true) {kg mg : Int} {okg : Bool} (hf : (atM M id = none → kg = 0 ∧ mg = 0 ∧ okg = false) ∧ (∀ x, atM M id = some x → kg = x.key ∧ mg = x.mark ∧ okg = true)) : Calls Try.prog 21 #[.pointer (some ⟨b, 0, none⟩), .int .i64 id] w fun r w' => r = .returned (.tuple #[.agg (aT kg mg), .bool okg]) ∧ Below w.heap.size w w' := by
  cases hb : atM M id with
  | none =>
    obtain ⟨rfl, rfl, rfl⟩ := hf.1 hb
    exact Get_none h hk hb
  | some x =>
    obtain ⟨rfl, rfl, rfl⟩ := hf.2 x hb
    exact Get_some h hk hb
theorem RGet_any {w : World} {rb B : Nat} {r : RS} {v : Value} (h : RL w rb B r v) {id : Int} {kg mg : Int} {okg : Bool} (hf : (atM r.L id = none → kg = 0 ∧ mg = 0 ∧ okg = false) ∧ (∀ x, atM r.L id = some x → kg = x.key ∧ mg = x.mark ∧ okg = true)) : Calls Try.prog 22 #[.pointer (some ⟨rb, 0, none⟩), .int .i64 id] w fun r w' => r = .returned (.tuple #[.agg (aT kg mg), .bool okg]) ∧ Below w.heap.size w w' := by
  refine (RGet_calls h id).mono ?_
  rintro e w' ⟨(⟨x, hb, rfl⟩ | ⟨hb, rfl⟩), hl⟩
  · obtain ⟨rfl, rfl, rfl⟩ := hf.2 x hb
    exact ⟨rfl, hl⟩
  · obtain ⟨rfl, rfl, rfl⟩ := hf.1 hb
    exact ⟨rfl, hl⟩
set_option maxRecDepth 100000 in
set_option maxHeartbeats 8000000 in
theorem AgendaRuns_hand (A : Option Addr) (c : Nat) (l : List S35) (W : World) (hr : Kd.C k35 W A l.length l) (hc : l.length ≤ c) (h2 : l.length * 40 ≤ 140737488351232 ∧ ∀ x ∈ l, OpOk x) : Calls Try.prog 5 #[.slice A l.length c] W fun e w' => e = .returned (.bool true) ∧ Below W.heap.size W w' := by
  have HR := Aside0.mk hr
  have H2 := Aside0.mk h2.2
  clear hr h2
  go_enter Try.func5, Try.ntmps5
  go_upto_region 4 with (go_at_call 8; refine (New_ax _).mono ?_; rintro r w1 ⟨rfl, hl, hx⟩; have H1 := Aside0.mk (run_start hl hx); clear hl hx)
  try change Code.wp _ _ _ _ (w1.alloc (.cells #[.slice none 0 0, .int .i64 0] 32))
  generalize w1.alloc (.cells #[.slice none 0 0, .int .i64 0] 32) = w2 at H1 ⊢
  generalize w1.heap.size + 1 = C at H1 ⊢
  generalize w1.heap.size = rb at H1 ⊢
  have HRB : Aside0 (∃ mb, mb = W.heap.size) := ⟨⟨_, rfl⟩⟩
  obtain ⟨mb, hmb⟩ := HRB.out
  have HRC : Aside0 (∃ b, b = W.heap.size + 1) := ⟨⟨_, rfl⟩⟩
  obtain ⟨b, hb⟩ := HRC.out
  have HRD : Aside0 (∃ B, B = W.heap.size + 2) := ⟨⟨_, rfl⟩⟩
  obtain ⟨B, hB⟩ := HRD.out
  replace H1 : Aside0 (RunI W b mb B rb C 0 w2) := ⟨by rw [hmb, hb, hB]; exact H1.out⟩
  try rw [← hb]
  clear hmb hb hB HRB HRC HRD
  go_wp2
  go_loopw [5] (fun i wr => ∃ j : Nat, j ≤ 60 ∧ i = .int .i64 (j : Int) ∧ Aside0 (RunI W b mb B rb C j wr)) (fun i _ => 60 - (intOf i).toNat)
  case atStart => exact ⟨0, by omega, rfl, H1⟩
  case round =>
    clear H1
    obtain ⟨j, hj60, rfl, HI⟩ := hrel
    by_cases hgo : j < l.length ∧ j < 60
    · have d1 : decide ((j : Int) < (l.length : Int)) = true := decide_eq_true (by omega)
      have d1' : decide (j < l.length) = true := decide_eq_true hgo.1
      have d2 : decide ((j : Int) < 60) = true := decide_eq_true (by omega)
      have d2' : decide (j < 60) = true := decide_eq_true hgo.2
      have HJ : Aside0 (j + 1 ≤ 60) := ⟨hgo.2⟩
      have hx0 : (0 : Int) ≤ (j : Int) := by omega
      have hx1 : (j : Int) < (l.length : Int) := by omega
      obtain ⟨ad, rfl, p0, p1, p2, p3, p4⟩ := at_T35 HR.out (j : Int) hx0 hx1
      have HOK := Aside0.mk (H2.out _ (o_mem hgo.1))
      obtain ⟨xx, hxx⟩ : ∃ xx, rd_T35 l (j : Int) = xx := ⟨_, rfl⟩
      rw [hxx, Int.toNat_natCast] at p0 p1 p2 p3 p4
      rw [hxx] at HOK
      have hw : wrap64 ((j : Int) + 1) = (j : Int) + 1 := by unfold wrap64; omega
      have HH : Aside0 (60 - ((j : Int) + 1).toNat < 60 - ((j : Int)).toNat) := ⟨by omega⟩
      have ht : ((j : Int)).toNat = j := Int.toNat_natCast j
      obtain ⟨nx, M, hnx, hbo⟩ := HI.out
      have HB := Aside0.mk hbo
      have HN : Aside0 (nx ≤ 1000) := ⟨by omega⟩
      have HNX := Aside0.mk hnx
      clear hxx hgo hnx hbo
      go_upto_region 7 with fail
      refine startN (S := fun w' => Below W.heap.size W w') (N := [5, 14]) (by kernel_rfl) ?_
      have hHeld : (fun w' => Below W.heap.size W w') wr.drew := (HB.out.below (Below.refl _ _).drew).be
      refine takeF (i := 0) (v := _) 31 rfl rfl (by kernel_rfl) (by kernel_rfl) (by kernel_rfl) (fun _ _ _ h => h) (Or.inl ⟨by rfl, fun w' _ => by first | (go_simp; done) | (go_simp; with_reducible rfl) | (go_simp; rfl)⟩) ?_
      try simp only [Act.put, List.setIfInBounds_toArray, List.set_cons_zero, List.set_cons_succ]
      refine takeF (i := 1) (v := _) 32 rfl rfl (by kernel_rfl) (by kernel_rfl) (by kernel_rfl) (fun _ _ _ h => h) (Or.inl ⟨by rfl, fun w' _ => by first | (go_simp; done) | (go_simp; with_reducible rfl) | (go_simp; rfl)⟩) ?_
      try simp only [Act.put, List.setIfInBounds_toArray, List.set_cons_zero, List.set_cons_succ]
      refine takeF (i := 2) (v := _) 33 rfl rfl (by kernel_rfl) (by kernel_rfl) (by kernel_rfl) (fun _ _ _ h => h) (Or.inl ⟨by rfl, fun w' _ => by first | (go_simp; done) | (go_simp; with_reducible rfl) | (go_simp; rfl)⟩) ?_
      try simp only [Act.put, List.setIfInBounds_toArray, List.set_cons_zero, List.set_cons_succ]
      refine takeF (i := 3) (v := _) 34 rfl rfl (by kernel_rfl) (by kernel_rfl) (by kernel_rfl) (fun _ _ _ h => h) (Or.inl ⟨by rfl, fun w' _ => by first | (go_simp; done) | (go_simp; with_reducible rfl) | (go_simp; rfl)⟩) ?_
      try simp only [Act.put, List.setIfInBounds_toArray, List.set_cons_zero, List.set_cons_succ]
      refine takeF (i := 4) (v := _) 35 rfl rfl (by kernel_rfl) (by kernel_rfl) (by kernel_rfl) (fun _ _ _ h => h) (Or.inl ⟨by rfl, fun w' _ => by first | (go_simp; done) | (go_simp; with_reducible rfl) | (go_simp; rfl)⟩) ?_
      try simp only [Act.put, List.setIfInBounds_toArray, List.set_cons_zero, List.set_cons_succ]
      refine takeN (i := 5) (v := _) 36 rfl rfl (by kernel_rfl) (by kernel_rfl) (by kernel_rfl) (fun _ _ _ h => h) (by kernel_rfl) (Or.inl ⟨by rfl, fun w' hW => by have hq0 := pw_cell_below hW p0; have hq1 := pw_cell_below hW p1; have hq2 := pw_cell_below hW p2; have hq3 := pw_cell_below hW p3; have hq4 := pw_cell_below hW p4; first | (go_simp; done) | (go_simp; with_reducible rfl) | (go_simp; rfl)⟩) hHeld ?_
      try simp only [Act.put, List.setIfInBounds_toArray, List.set_cons_zero, List.set_cons_succ]
      have HB1 : Aside0 (Bo W b mb B rb C nx M wr.drew) := ⟨HB.out.below (Below.refl _ _).drew⟩
      clear hHeld
      generalize wr.drew = w3 at HB1 ⊢
      refine readyN (rs := [6]) (by kernel_rfl) (by simp) ?_
      refine eachN.cons rfl (fun K hK => ?_) eachN.nil
      go_simp
      go_wp2_with (go_at_call 10; refine (do_calls HB1.out HN.out xx.f0 xx.f1.f0 xx.f1.f1 xx.f2 xx.f3 HOK.out.2.2.1).mono ?_; rintro e w4 ⟨rfl, nx2, M2, hn2, hb2⟩; have HB2 := Aside0.mk (And.intro hb2 hn2); clear hb2 hn2)
      refine hK.out _ _ HB2.out.1.be (fun hHeld => ?_)
      clear hK K
      try simp only [Act.put, List.setIfInBounds_toArray, List.set_cons_zero, List.set_cons_succ]
      refine takeF (i := 7) (v := _) 38 rfl rfl (by kernel_rfl) (by kernel_rfl) (by kernel_rfl) (fun _ _ _ h => h) (Or.inl ⟨by rfl, fun w' _ => by first | (go_simp; done) | (go_simp; with_reducible rfl) | (go_simp; rfl)⟩) ?_
      try simp only [Act.put, List.setIfInBounds_toArray, List.set_cons_zero, List.set_cons_succ]
      refine takeF (i := 8) (v := _) 39 rfl rfl (by kernel_rfl) (by kernel_rfl) (by kernel_rfl) (fun _ _ _ h => h) (Or.inl ⟨by rfl, fun w' _ => by first | (go_simp; done) | (go_simp; with_reducible rfl) | (go_simp; rfl)⟩) ?_
      try simp only [Act.put, List.setIfInBounds_toArray, List.set_cons_zero, List.set_cons_succ]
      refine takeF (i := 9) (v := _) 40 rfl rfl (by kernel_rfl) (by kernel_rfl) (by kernel_rfl) (fun _ _ _ h => h) (Or.inl ⟨by rfl, fun w' _ => by first | (go_simp; done) | (go_simp; with_reducible rfl) | (go_simp; rfl)⟩) ?_
      try simp only [Act.put, List.setIfInBounds_toArray, List.set_cons_zero, List.set_cons_succ]
      refine takeF (i := 11) (v := _) 42 rfl rfl (by kernel_rfl) (by kernel_rfl) (by kernel_rfl) (fun _ _ _ h => h) (Or.inl ⟨by rfl, fun w' _ => by first | (go_simp; done) | (go_simp; with_reducible rfl) | (go_simp; rfl)⟩) ?_
      try simp only [Act.put, List.setIfInBounds_toArray, List.set_cons_zero, List.set_cons_succ]
      refine takeF (i := 12) (v := _) 43 rfl rfl (by kernel_rfl) (by kernel_rfl) (by kernel_rfl) (fun _ _ _ h => h) (Or.inl ⟨by rfl, fun w' _ => by first | (go_simp; done) | (go_simp; with_reducible rfl) | (go_simp; rfl)⟩) ?_
      try simp only [Act.put, List.setIfInBounds_toArray, List.set_cons_zero, List.set_cons_succ]
      refine takeF (i := 13) (v := _) 44 rfl rfl (by kernel_rfl) (by kernel_rfl) (by kernel_rfl) (fun _ _ _ h => h) (Or.inl ⟨by rfl, fun w' _ => by first | (go_simp; done) | (go_simp; with_reducible rfl) | (go_simp; rfl)⟩) ?_
      try simp only [Act.put, List.setIfInBounds_toArray, List.set_cons_zero, List.set_cons_succ]
      clear hHeld
      obtain ⟨vr, hvr⟩ := HB2.out.1.rl
      obtain ⟨Ar, cr, rfl, -⟩ := hvr.form
      have HVR := Aside0.mk hvr
      clear hvr
      refine readyN (rs := [10, 14]) (by kernel_rfl) (by simp) ?_
      refine eachN.cons rfl (fun K hK => ?_) (eachN.cons rfl (fun K hK => ?_) eachN.nil)
      · go_simp
        go_wp2_with (go_at_call 12; refine (Len_ax HB2.out.1.ax).mono ?_; rintro e w5 ⟨rfl, hw5⟩; replace hw5 := hw5.symm; subst hw5)
        refine hK.out _ _ HB2.out.1.be (fun hHeld => ?_)
        clear hK K
        try simp only [Act.put, List.setIfInBounds_toArray, List.set_cons_zero, List.set_cons_succ]
        clear hHeld
        refine readyN (rs := [14]) (by kernel_rfl) (by simp) ?_
        refine eachN.cons rfl (fun K hK => ?_) eachN.nil
        have c0 := HVR.out.cells.1
        go_simp
        clear c0
        refine hK.out _ _ HB2.out.1.be (fun hHeld => ?_)
        clear hK K
        try simp only [Act.put, List.setIfInBounds_toArray, List.set_cons_zero, List.set_cons_succ]
        clear hHeld
        refine takeF (i := 15) (v := _) 46 rfl rfl (by kernel_rfl) (by kernel_rfl) (by kernel_rfl) (fun _ _ _ h => h) (Or.inl ⟨by rfl, fun w' _ => by first | (go_simp; done) | (go_simp; with_reducible rfl) | (go_simp; rfl)⟩) ?_
        try simp only [Act.put, List.setIfInBounds_toArray, List.set_cons_zero, List.set_cons_succ]
        refine takeF (i := 16) (v := _) 47 rfl rfl (by kernel_rfl) (by kernel_rfl) (by kernel_rfl) (fun _ _ _ h => h) (Or.inl ⟨by rfl, fun w' _ => by first | (go_simp; done) | (go_simp; with_reducible rfl) | (go_simp; rfl)⟩) ?_
        try simp only [Act.put, List.setIfInBounds_toArray, List.set_cons_zero, List.set_cons_succ]
        refine takeF (i := 17) (v := _) 48 rfl rfl (by kernel_rfl) (by kernel_rfl) (by kernel_rfl) (fun _ _ _ h => h) (Or.inl ⟨by rfl, fun w' _ => by first | (go_simp; done) | (go_simp; with_reducible rfl) | (go_simp; rfl)⟩) ?_
        try simp only [Act.put, List.setIfInBounds_toArray, List.set_cons_zero, List.set_cons_succ]
        refine doneN (by kernel_rfl) ?_ _
        clear HVR HB1 HB
        replace p3 := p3
        have HF := Aside0.mk (fir_ex M2)
        obtain ⟨kf, mf, idf, okf, hf1, hf2⟩ := HF.out
        have HFF := Aside0.mk (And.intro hf1 hf2)
        clear hf1 hf2 HF
        have HG := Aside0.mk (at_ex M2 xx.f2)
        obtain ⟨kg, mg, okg, hg1, hg2⟩ := HG.out
        have HGG := Aside0.mk (And.intro hg1 hg2)
        clear hg1 hg2 HG
        go_upto_region 10 with (go_at_call 19; refine (First_any HB2.out.1.ax HFF.out).mono ?_; rintro e w6 ⟨rfl, hl6⟩; have HB6 := Aside0.mk (And.intro (HB2.out.1.below hl6) HB2.out.2); clear hl6)
        have HB7 : Aside0 (Bo W b mb B rb C nx2 M2 (w6.alloc (.cells (aT kf mf) 27)) ∧ (w6.alloc (.cells (aT kf mf) 27)).heap[w6.heap.size]? = some (.cells (aT kf mf) 27 (0, 0))) := ⟨HB6.out.1.below ((Below.refl _ _).alloc (Nat.le_refl _) _), World.alloc_heap_new _ _⟩
        try change Code.wp _ _ _ _ (w6.alloc (.cells (aT kf mf) 27))
        generalize w6.alloc (.cells (aT kf mf) 27) = w7 at HB7 ⊢
        generalize w6.heap.size = g6 at HB7 ⊢
        clear HB6
        obtain ⟨vs, hvs⟩ := HB7.out.1.rl
        have HVS := Aside0.mk hvs
        clear hvs
        go_upto_region 11 with (go_at_call 20; refine (RFirst_any HVS.out HFF.out).mono ?_; rintro e w8 ⟨rfl, hl8⟩; have HB8 := Aside0.mk (And.intro (HB7.out.1.below hl8) (obj_below hl8 HB7.out.2)); clear hl8)
        have HB9 : Aside0 (Bo W b mb B rb C nx2 M2 (w8.alloc (.cells (aT kf mf) 27)) ∧ (w8.alloc (.cells (aT kf mf) 27)).heap[g6]? = some (.cells (aT kf mf) 27 (0, 0)) ∧ (w8.alloc (.cells (aT kf mf) 27)).heap[w8.heap.size]? = some (.cells (aT kf mf) 27 (0, 0))) := ⟨HB8.out.1.below ((Below.refl _ _).alloc (Nat.le_refl _) _), obj_below ((Below.refl _ _).alloc (Nat.le_refl _) _) HB8.out.2, World.alloc_heap_new _ _⟩
        try change Code.wp _ _ _ _ (w8.alloc (.cells (aT kf mf) 27))
        generalize w8.alloc (.cells (aT kf mf) 27) = w9 at HB9 ⊢
        generalize w8.heap.size = g9 at HB9 ⊢
        clear HB7 HB8 HVS
        have P3 := Aside0.mk p3
        have q3 := pw_cell_below HB9.out.1.be P3.out
        clear p0 p1 p2 p3 p4
        go_upto_region 12 with (go_at_call 21; refine (Get_any HB9.out.1.ax HOK.out.2.2.1 HGG.out).mono ?_; rintro e w10 ⟨rfl, hl10⟩; have HB10 := Aside0.mk (And.intro (HB9.out.1.below hl10) (And.intro (obj_below hl10 HB9.out.2.1) (obj_below hl10 HB9.out.2.2))); clear hl10)
        clear q3
        have HB11 : Aside0 (Bo W b mb B rb C nx2 M2 (w10.alloc (.cells (aT kg mg) 27)) ∧ (w10.alloc (.cells (aT kg mg) 27)).heap[g6]? = some (.cells (aT kf mf) 27 (0, 0)) ∧ (w10.alloc (.cells (aT kg mg) 27)).heap[g9]? = some (.cells (aT kf mf) 27 (0, 0)) ∧ (w10.alloc (.cells (aT kg mg) 27)).heap[w10.heap.size]? = some (.cells (aT kg mg) 27 (0, 0))) := ⟨HB10.out.1.below ((Below.refl _ _).alloc (Nat.le_refl _) _), obj_below ((Below.refl _ _).alloc (Nat.le_refl _) _) HB10.out.2.1, obj_below ((Below.refl _ _).alloc (Nat.le_refl _) _) HB10.out.2.2, World.alloc_heap_new _ _⟩
        try change Code.wp _ _ _ _ (w10.alloc (.cells (aT kg mg) 27))
        generalize w10.alloc (.cells (aT kg mg) 27) = w11 at HB11 ⊢
        generalize w10.heap.size = g12 at HB11 ⊢
        clear HB9 HB10
        obtain ⟨vt, hvt⟩ := HB11.out.1.rl
        have HVT := Aside0.mk hvt
        clear hvt
        have q3 := pw_cell_below HB11.out.1.be P3.out
        go_upto_region 13 with (go_at_call 22; refine (RGet_any HVT.out HGG.out).mono ?_; rintro e w12 ⟨rfl, hl12⟩; have HB12 := Aside0.mk (And.intro (HB11.out.1.below hl12) (And.intro (obj_below hl12 HB11.out.2.1) (And.intro (obj_below hl12 HB11.out.2.2.1) (obj_below hl12 HB11.out.2.2.2)))); clear hl12)
        clear q3
        have HB13 : Aside0 (Bo W b mb B rb C nx2 M2 (w12.alloc (.cells (aT kg mg) 27)) ∧ (w12.alloc (.cells (aT kg mg) 27)).heap[g6]? = some (.cells (aT kf mf) 27 (0, 0)) ∧ (w12.alloc (.cells (aT kg mg) 27)).heap[g9]? = some (.cells (aT kf mf) 27 (0, 0)) ∧ (w12.alloc (.cells (aT kg mg) 27)).heap[g12]? = some (.cells (aT kg mg) 27 (0, 0)) ∧ (w12.alloc (.cells (aT kg mg) 27)).heap[w12.heap.size]? = some (.cells (aT kg mg) 27 (0, 0))) := ⟨HB12.out.1.below ((Below.refl _ _).alloc (Nat.le_refl _) _), obj_below ((Below.refl _ _).alloc (Nat.le_refl _) _) HB12.out.2.1, obj_below ((Below.refl _ _).alloc (Nat.le_refl _) _) HB12.out.2.2.1, obj_below ((Below.refl _ _).alloc (Nat.le_refl _) _) HB12.out.2.2.2, World.alloc_heap_new _ _⟩
        try change Code.wp _ _ _ _ (w12.alloc (.cells (aT kg mg) 27))
        generalize w12.alloc (.cells (aT kg mg) 27) = w13 at HB13 ⊢
        generalize w12.heap.size = g14 at HB13 ⊢
        clear HB11 HB12 HVT
        obtain ⟨x0, x1⟩ := blk2 HB13.out.2.1
        obtain ⟨y0, y1⟩ := blk2 HB13.out.2.2.1
        obtain ⟨z0, z1⟩ := blk2 HB13.out.2.2.2.1
        obtain ⟨u0, u1⟩ := blk2 HB13.out.2.2.2.2
        go_wp2
        go_roundw
        case rel => exact ⟨j + 1, HJ.out, (by first | rfl | (rw [hw]; rfl)), ⟨nx2, M2, by have h8 := HB2.out.2; have h9 := HNX.out; omega, HB13.out.1⟩⟩
        case measure => first | exact HH.out | (simp only [hw]; exact HH.out)
      · have c0 := HVR.out.cells.1
        go_simp
        clear c0
        refine hK.out _ _ HB2.out.1.be (fun hHeld => ?_)
        clear hK K
        try simp only [Act.put, List.setIfInBounds_toArray, List.set_cons_zero, List.set_cons_succ]
        refine takeF (i := 15) (v := _) 46 rfl rfl (by kernel_rfl) (by kernel_rfl) (by kernel_rfl) (fun _ _ _ h => h) (Or.inl ⟨by rfl, fun w' _ => by first | (go_simp; done) | (go_simp; with_reducible rfl) | (go_simp; rfl)⟩) ?_
        try simp only [Act.put, List.setIfInBounds_toArray, List.set_cons_zero, List.set_cons_succ]
        clear hHeld
        refine readyN (rs := [10]) (by kernel_rfl) (by simp) ?_
        refine eachN.cons rfl (fun K hK => ?_) eachN.nil
        go_simp
        go_wp2_with (go_at_call 12; refine (Len_ax HB2.out.1.ax).mono ?_; rintro e w5 ⟨rfl, hw5⟩; replace hw5 := hw5.symm; subst hw5)
        refine hK.out _ _ HB2.out.1.be (fun hHeld => ?_)
        clear hK K
        try simp only [Act.put, List.setIfInBounds_toArray, List.set_cons_zero, List.set_cons_succ]
        clear hHeld
        refine takeF (i := 16) (v := _) 47 rfl rfl (by kernel_rfl) (by kernel_rfl) (by kernel_rfl) (fun _ _ _ h => h) (Or.inl ⟨by rfl, fun w' _ => by first | (go_simp; done) | (go_simp; with_reducible rfl) | (go_simp; rfl)⟩) ?_
        try simp only [Act.put, List.setIfInBounds_toArray, List.set_cons_zero, List.set_cons_succ]
        refine takeF (i := 17) (v := _) 48 rfl rfl (by kernel_rfl) (by kernel_rfl) (by kernel_rfl) (fun _ _ _ h => h) (Or.inl ⟨by rfl, fun w' _ => by first | (go_simp; done) | (go_simp; with_reducible rfl) | (go_simp; rfl)⟩) ?_
        try simp only [Act.put, List.setIfInBounds_toArray, List.set_cons_zero, List.set_cons_succ]
        refine doneN (by kernel_rfl) ?_ _
        clear HVR HB1 HB
        replace p3 := p3
        have HF := Aside0.mk (fir_ex M2)
        obtain ⟨kf, mf, idf, okf, hf1, hf2⟩ := HF.out
        have HFF := Aside0.mk (And.intro hf1 hf2)
        clear hf1 hf2 HF
        have HG := Aside0.mk (at_ex M2 xx.f2)
        obtain ⟨kg, mg, okg, hg1, hg2⟩ := HG.out
        have HGG := Aside0.mk (And.intro hg1 hg2)
        clear hg1 hg2 HG
        go_upto_region 10 with (go_at_call 19; refine (First_any HB2.out.1.ax HFF.out).mono ?_; rintro e w6 ⟨rfl, hl6⟩; have HB6 := Aside0.mk (And.intro (HB2.out.1.below hl6) HB2.out.2); clear hl6)
        have HB7 : Aside0 (Bo W b mb B rb C nx2 M2 (w6.alloc (.cells (aT kf mf) 27)) ∧ (w6.alloc (.cells (aT kf mf) 27)).heap[w6.heap.size]? = some (.cells (aT kf mf) 27 (0, 0))) := ⟨HB6.out.1.below ((Below.refl _ _).alloc (Nat.le_refl _) _), World.alloc_heap_new _ _⟩
        try change Code.wp _ _ _ _ (w6.alloc (.cells (aT kf mf) 27))
        generalize w6.alloc (.cells (aT kf mf) 27) = w7 at HB7 ⊢
        generalize w6.heap.size = g6 at HB7 ⊢
        clear HB6
        obtain ⟨vs, hvs⟩ := HB7.out.1.rl
        have HVS := Aside0.mk hvs
        clear hvs
        go_upto_region 11 with (go_at_call 20; refine (RFirst_any HVS.out HFF.out).mono ?_; rintro e w8 ⟨rfl, hl8⟩; have HB8 := Aside0.mk (And.intro (HB7.out.1.below hl8) (obj_below hl8 HB7.out.2)); clear hl8)
        have HB9 : Aside0 (Bo W b mb B rb C nx2 M2 (w8.alloc (.cells (aT kf mf) 27)) ∧ (w8.alloc (.cells (aT kf mf) 27)).heap[g6]? = some (.cells (aT kf mf) 27 (0, 0)) ∧ (w8.alloc (.cells (aT kf mf) 27)).heap[w8.heap.size]? = some (.cells (aT kf mf) 27 (0, 0))) := ⟨HB8.out.1.below ((Below.refl _ _).alloc (Nat.le_refl _) _), obj_below ((Below.refl _ _).alloc (Nat.le_refl _) _) HB8.out.2, World.alloc_heap_new _ _⟩
        try change Code.wp _ _ _ _ (w8.alloc (.cells (aT kf mf) 27))
        generalize w8.alloc (.cells (aT kf mf) 27) = w9 at HB9 ⊢
        generalize w8.heap.size = g9 at HB9 ⊢
        clear HB7 HB8 HVS
        have P3 := Aside0.mk p3
        have q3 := pw_cell_below HB9.out.1.be P3.out
        clear p0 p1 p2 p3 p4
        go_upto_region 12 with (go_at_call 21; refine (Get_any HB9.out.1.ax HOK.out.2.2.1 HGG.out).mono ?_; rintro e w10 ⟨rfl, hl10⟩; have HB10 := Aside0.mk (And.intro (HB9.out.1.below hl10) (And.intro (obj_below hl10 HB9.out.2.1) (obj_below hl10 HB9.out.2.2))); clear hl10)
        clear q3
        have HB11 : Aside0 (Bo W b mb B rb C nx2 M2 (w10.alloc (.cells (aT kg mg) 27)) ∧ (w10.alloc (.cells (aT kg mg) 27)).heap[g6]? = some (.cells (aT kf mf) 27 (0, 0)) ∧ (w10.alloc (.cells (aT kg mg) 27)).heap[g9]? = some (.cells (aT kf mf) 27 (0, 0)) ∧ (w10.alloc (.cells (aT kg mg) 27)).heap[w10.heap.size]? = some (.cells (aT kg mg) 27 (0, 0))) := ⟨HB10.out.1.below ((Below.refl _ _).alloc (Nat.le_refl _) _), obj_below ((Below.refl _ _).alloc (Nat.le_refl _) _) HB10.out.2.1, obj_below ((Below.refl _ _).alloc (Nat.le_refl _) _) HB10.out.2.2, World.alloc_heap_new _ _⟩
        try change Code.wp _ _ _ _ (w10.alloc (.cells (aT kg mg) 27))
        generalize w10.alloc (.cells (aT kg mg) 27) = w11 at HB11 ⊢
        generalize w10.heap.size = g12 at HB11 ⊢
        clear HB9 HB10
        obtain ⟨vt, hvt⟩ := HB11.out.1.rl
        have HVT := Aside0.mk hvt
        clear hvt
        have q3 := pw_cell_below HB11.out.1.be P3.out
        go_upto_region 13 with (go_at_call 22; refine (RGet_any HVT.out HGG.out).mono ?_; rintro e w12 ⟨rfl, hl12⟩; have HB12 := Aside0.mk (And.intro (HB11.out.1.below hl12) (And.intro (obj_below hl12 HB11.out.2.1) (And.intro (obj_below hl12 HB11.out.2.2.1) (obj_below hl12 HB11.out.2.2.2)))); clear hl12)
        clear q3
        have HB13 : Aside0 (Bo W b mb B rb C nx2 M2 (w12.alloc (.cells (aT kg mg) 27)) ∧ (w12.alloc (.cells (aT kg mg) 27)).heap[g6]? = some (.cells (aT kf mf) 27 (0, 0)) ∧ (w12.alloc (.cells (aT kg mg) 27)).heap[g9]? = some (.cells (aT kf mf) 27 (0, 0)) ∧ (w12.alloc (.cells (aT kg mg) 27)).heap[g12]? = some (.cells (aT kg mg) 27 (0, 0)) ∧ (w12.alloc (.cells (aT kg mg) 27)).heap[w12.heap.size]? = some (.cells (aT kg mg) 27 (0, 0))) := ⟨HB12.out.1.below ((Below.refl _ _).alloc (Nat.le_refl _) _), obj_below ((Below.refl _ _).alloc (Nat.le_refl _) _) HB12.out.2.1, obj_below ((Below.refl _ _).alloc (Nat.le_refl _) _) HB12.out.2.2.1, obj_below ((Below.refl _ _).alloc (Nat.le_refl _) _) HB12.out.2.2.2, World.alloc_heap_new _ _⟩
        try change Code.wp _ _ _ _ (w12.alloc (.cells (aT kg mg) 27))
        generalize w12.alloc (.cells (aT kg mg) 27) = w13 at HB13 ⊢
        generalize w12.heap.size = g14 at HB13 ⊢
        clear HB11 HB12 HVT
        obtain ⟨x0, x1⟩ := blk2 HB13.out.2.1
        obtain ⟨y0, y1⟩ := blk2 HB13.out.2.2.1
        obtain ⟨z0, z1⟩ := blk2 HB13.out.2.2.2.1
        obtain ⟨u0, u1⟩ := blk2 HB13.out.2.2.2.2
        go_wp2
        go_roundw
        case rel => exact ⟨j + 1, HJ.out, (by first | rfl | (rw [hw]; rfl)), ⟨nx2, M2, by have h8 := HB2.out.2; have h9 := HNX.out; omega, HB13.out.1⟩⟩
        case measure => first | exact HH.out | (simp only [hw]; exact HH.out)
    · have HBE : Aside0 (Below W.heap.size W wr) := ⟨by obtain ⟨nx, M, _, hbo⟩ := HI.out; exact hbo.be⟩
      by_cases hl : j < l.length
      · have d1 : decide ((j : Int) < (l.length : Int)) = true := decide_eq_true (by omega)
        have d1' : decide (j < l.length) = true := decide_eq_true hl
        have d2 : decide ((j : Int) < 60) = false := decide_eq_false (by omega)
        have d2' : decide (j < 60) = false := decide_eq_false (by omega)
        clear hgo hl
        go_wp2_with (go_at_call 13; refine (alive_calls _).mono ?_; rintro e w5 ⟨rfl, hl5⟩; have HAL := Aside0.mk (HBE.out.trans (hl5.mono HBE.out.size)); clear hl5)
        go_ret
        exact ⟨rfl, HAL.out⟩
      · have d1 : decide ((j : Int) < (l.length : Int)) = false := decide_eq_false (by omega)
        have d1' : decide (j < l.length) = false := decide_eq_false hl
        clear hgo hl
        go_wp2_with (go_at_call 13; refine (alive_calls _).mono ?_; rintro e w5 ⟨rfl, hl5⟩; have HAL := Aside0.mk (HBE.out.trans (hl5.mono HBE.out.size)); clear hl5)
        go_ret
        exact ⟨rfl, HAL.out⟩
end Go.Proofs.Ythjppjcmapgkpaa.QAg
