/- Lane: LaneCredit: the walk. Written by a program of this repo (tools/gen_lcredit.py). -/
import Derived.Test.YtglekbbdbnpohaaZ4Ln
import Derived.Deep.CutBlock
import Derived.Deep.DeepCutAuto
namespace Go.Proofs.Ytglekbbdbnpohaa.QLn
open Go.RowKit Go.Proofs.YtglekbbdbnpohaaW.PrintWords Go.Proofs.YtglekbbdbnpohaaW.PrintLast Go.Proofs.YtglekbbdbnpohaaW.PrintMore
set_option linter.unusedVariables false
set_option linter.unusedSimpArgs false
def OpOk2 (x : S40) : Prop := (Lit.int .i64 x.f0).wf = true ∧ ((Lit.int .u64 x.f1.f0).wf = true ∧ (Lit.int .u64 x.f1.f1).wf = true) ∧ ((Lit.int .i64 x.f2.f0).wf = true ∧ (Lit.int .u64 x.f2.f1).wf = true) ∧ ((Lit.int .i64 x.f3.f0).wf = true ∧ (Lit.int .i64 x.f3.f1).wf = true)
theorem c_u64 {x : Int} (h : (Lit.int .u64 x).wf = true) : U64 x := by
  have hmin : IntKind.u64.min = 0 := rfl
  have hmax : IntKind.u64.max = 18446744073709551615 := rfl
  simp only [Lit.wf, Bool.and_eq_true, decide_eq_true_eq] at h
  unfold U64; omega
theorem c_u8 {x : Int} (h : (Lit.int .u8 x).wf = true) : 0 ≤ x ∧ x ≤ 255 := by
  have hmin : IntKind.u8.min = 0 := rfl
  have hmax : IntKind.u8.max = 255 := rfl
  simp only [Lit.wf, Bool.and_eq_true, decide_eq_true_eq] at h
  omega
theorem c_mem {l : List S40} {i : Nat} (h : i < l.length) : rd_T40 l (i : Int) ∈ l := by
  unfold rd_T40
  rw [Int.toNat_natCast, List.getD_eq_getElem?_getD, List.getElem?_eq_getElem h]
  exact List.getElem_mem h
theorem info34 : (Try.prog.info? 34).map (fun i => (i.zero, i.size, i.bytes)) = some (some (.agg #[.int .u64 0, .int .u64 0]), 2, 16) := by kernel_rfl
theorem info_parts {e : TypeId} {z : Value} {n b : Nat} (h : (Try.prog.info? e).map (fun i => (i.zero, i.size, i.bytes)) = some (some z, n, b)) : ∃ i, Try.prog.info? e = some i ∧ i.zero = some z ∧ i.size = n ∧ i.bytes = b := by
  cases hi : Try.prog.info? e with
  | none => rw [hi] at h; cases h
  | some i =>
    rw [hi] at h
    simp only [Option.map_some, Option.some.injEq, Prod.mk.injEq] at h
    exact ⟨i, rfl, h.1, h.2.1, h.2.2⟩
theorem cells_new (W : World) (cs : Array Value) (t : TypeId) (j : Nat) (u : Value) (h : cs.toList[j]? = some u) : (W.alloc (.cells cs t)).cell? (Addr.add ⟨W.heap.size, 0, none⟩ j) = some u := by
  have e : cs[j]? = some u := by rw [← Array.getElem?_toList]; exact h
  have e2 : (Addr.add ⟨W.heap.size, 0, none⟩ j) = ⟨W.heap.size, j, none⟩ := by rw [Addr.add_mid, Nat.zero_add]
  rw [e2]
  simp only [World.cell?]
  rw [show (W.alloc (.cells cs t)).heap[W.heap.size]? = some (.cells cs t (0, 0)) from World.alloc_heap_new _ _]
  exact e
theorem w64_nat {r : Nat} (h : r < 1000000) : wrap64 ((r : Int) + 1) = (r : Int) + 1 := by unfold wrap64; omega
theorem meas_nat {n i : Nat} (h : i < n) : n - ((i : Int) + 1).toNat < n - ((i : Int)).toNat := by omega
theorem cr_ne {r : Nat} (h : 1 ≤ r) : ((r : Int) == 0) = false ∧ (r == 0) = false ∧ ¬ ((r : Int) = 0) ∧ ¬ (r = 0) := by
  refine ⟨?_, ?_, ?_, ?_⟩ <;> (try simp) <;> omega
theorem state_ok {a : AS} {ts : List (Int × Int)} {n : Int} (hn : 1 ≤ n) (h : CI n.toNat a ts) (hb : a.tail < 1000000 ∧ a.total ≤ a.credit ∧ a.credit ≤ 64) : ∃ v1 v2 v3 v4 v5 v6 : Int, stateR a = aSt v1 v2 v3 v4 v5 v6 ∧ 0 ≤ v1 ∧ 0 ≤ v2 ∧ 0 ≤ v3 ∧ 0 ≤ v4 ∧ 0 ≤ v5 ∧ v1 + v2 + v3 + v4 + v5 = n ∧ (0 < v2 → a.C ≠ []) := by
  refine ⟨_, _, _, _, _, _, rfl, ?_, ?_, ?_, ?_, ?_, ?_, ?_⟩
  · omega
  · omega
  · omega
  · omega
  · omega
  · have e1 := state_sum a
    have e2 := h.cr
    unfold AS.total
    omega
  · intro h0 hc
    rw [hc] at h0
    simp at h0
theorem Cw.tks {w0 w : World} {b mb : Nat} {a : AS} {k B n c : Nat} {A : Option Addr} {ts : List (Int × Int)} {L : List (Nat × Obj)} (h : Cw w0 b mb a k B (.slice A n c) ts L w) : TksAt w A ts := by
  obtain ⟨A', c', e, _, ht⟩ := h.reads
  injection e with e1 e2 e3
  subst e1
  exact ht
theorem takeR_sh (a : AS) : ∃ n g q ep er, (takeR a).2 = .tuple #[.agg (aSlot n g), .agg (aTick q ep), .int .i64 er] := by
  unfold takeR
  split
  · exact ⟨_, _, _, _, _, rfl⟩
  · exact ⟨_, _, _, _, _, rfl⟩
theorem retR_sh (a : AS) (q ep : Int) : ∃ n g bk er, (retR a q ep).2 = .tuple #[.agg (aSlot n g), .bool bk, .int .i64 er] := by
  unfold retR
  split
  · exact ⟨_, _, _, _, rfl⟩
  · split
    · exact ⟨_, _, _, _, rfl⟩
    · split
      · exact ⟨_, _, _, _, rfl⟩
      · split
        · exact ⟨_, _, _, _, rfl⟩
        · exact ⟨_, _, _, _, rfl⟩
/-- The counter of LaneCredit's inner loop. -/
def Rc (a : AS) (ts : List (Int × Int)) (k : Nat) (r : Nat) : Prop := r ≤ k ∧ ∀ i p, i < k → ts[i]? = some p → readyR a p.1 p.2 = true → 1 ≤ r
theorem rc_zero (a : AS) (ts : List (Int × Int)) : Rc a ts 0 0 := ⟨Nat.le_refl _, fun i p h => by omega⟩
theorem rc_yes {a : AS} {ts : List (Int × Int)} {k r : Nat} (h : Rc a ts k r) : Rc a ts (k + 1) (r + 1) := ⟨by have := h.1; omega, fun i p _ _ _ => by omega⟩
theorem rc_no {a : AS} {ts : List (Int × Int)} {k r : Nat} {p : Int × Int} (h : Rc a ts k r) (hp : ts[k]? = some p) (hn : readyR a p.1 p.2 = false) : Rc a ts (k + 1) r := ⟨by have := h.1; omega, fun i q hi hq hr => by
  rcases Nat.lt_or_ge i k with hl | hl
  · exact h.2 i q hl hq hr
  · have : i = k := by omega
    subst this
    rw [hp] at hq
    cases hq
    rw [hn] at hr
    cases hr⟩
theorem rc_end {a : AS} {ts : List (Int × Int)} {k r : Nat} (h : Rc a ts k r) (hk : ts.length ≤ k) (he : ∃ p ∈ ts, readyR a p.1 p.2 = true) : 1 ≤ r := by
  obtain ⟨p, hp, hr⟩ := he
  obtain ⟨i, hi, e⟩ := List.getElem_of_mem hp
  exact h.2 i p (by omega) (by rw [List.getElem?_eq_getElem hi, e]) hr
/-- What the loop of LaneCredit keeps. -/
def CR (W : World) (b m B n : Nat) (j : Nat) (s : Value) (wr : World) : Prop := ∃ a ts, Cw W b m a (2 * j) B s ts [] wr ∧ CI n a ts ∧ ts.length ≤ j
/-- What the inner loop keeps. -/
def CQ (W : World) (b m B k : Nat) (a : AS) (s : Value) (ts : List (Int × Int)) (L : List (Nat × Obj)) (i r : Nat) (wr : World) : Prop := Cw W b m a k B s ts L wr ∧ Rc a ts i r
set_option maxRecDepth 100000 in
set_option maxHeartbeats 8000000 in
theorem LaneCredit_hand (a0 : Int) (a1 : Bool) (a2 : Int) (A3 : Option Addr) (c3 : Nat) (l3 : List S40) (W : World) (hr3 : Kd.C k40 W A3 l3.length l3) (hc3 : l3.length ≤ c3) (h0 : (Lit.int .u8 a0).wf = true) (_ : True) (h2 : (Lit.int .u64 a2).wf = true) (h3 : l3.length * 56 ≤ 140737488351232 ∧ ∀ x ∈ l3, OpOk2 x) :
    Calls Try.prog 5 #[.int .u8 a0, .bool a1, .int .u64 a2, .slice A3 l3.length c3] W fun e w' => e = .returned (.bool true) ∧ Below W.heap.size W w' := by
  have HR := Aside0.mk hr3
  have H1 := Aside0.mk (c_u64 h2)
  have H2 := Aside0.mk h3.2
  have H20 := Aside0.mk h3.1
  have hb0 := c_u8 h0
  have e1 : IntKind.i64.wrap a0 = a0 := by rw [IntKind.wrap_i64]; omega
  have e2 : a0.tmod 64 = a0 % 64 := by rw [Int.tmod_eq_emod_of_nonneg hb0.1]
  have e3 : wrap64 (a0 % 64 + 1) = a0 % 64 + 1 := by unfold wrap64; omega
  obtain ⟨n, hn⟩ : ∃ n, a0 % 64 + 1 = n := ⟨_, rfl⟩
  have hn1 : 1 ≤ n := by omega
  have hn2 : n ≤ 64 := by omega
  rw [hn] at e3
  clear hr3 h2 h3 h0
  obtain ⟨i0, hi, hz0, hz1, hz2⟩ := info_parts info34
  have HI0 := Aside0.mk (And.intro hi (And.intro hz0 (And.intro hz1 hz2)))
  clear hi hz0 hz1 hz2
  go_enter Try.func5, Try.ntmps5
  go_upto_region 4 with (go_at_call 9; refine (awake_calls _).mono ?_; rintro e w1 ⟨rfl, hb1⟩; have HB1 := Aside0.mk hb1; clear hb1)
  go_upto_region 5 with (go_at_call 10; refine (A_new n a1 a2 hn1 hn2 H1.out _).mono ?_; rintro e w2 ⟨rfl, hb2, hl2⟩; have HB2 := Aside0.mk (And.intro hb2 hl2); clear hb2 hl2)
  have HOI : Aside0 (CR W (w1.heap.size + 1) w1.heap.size w2.heap.size n.toNat 0 (.slice none 0 0) w2) := by
    have h1 := HB1.out
    have h2 := HB2.out
    have hlt := h2.2.lt
    have hs1 := h1.size
    exact ⟨⟨_, _, ⟨⟨h2.2, h1.trans (h2.1.mono hs1), by omega, by omega, fun p hp => by cases hp⟩, by omega, World.ownsRow_nil _ _ _ _, Nat.le_refl _⟩, ci_new _ _ _, Nat.le_refl _⟩⟩
  clear HB1 HB2
  generalize w2.heap.size = B at HOI ⊢
  generalize w1.heap.size = m at HOI ⊢
  generalize m + 1 = b at HOI ⊢
  go_wp2
  go_loopw [12, 13] (fun s i wr => ∃ j : Nat, j ≤ 60 ∧ i = .int .i64 (j : Int) ∧ Aside0 (CR W b m B n.toNat j s wr)) (fun _ i _ => 60 - (intOf i).toNat)
  case atStart => exact ⟨0, by omega, rfl, HOI⟩
  case round =>
    clear HOI
    obtain ⟨j, hj60, rfl, HI⟩ := hrel
    by_cases hgo : j < l3.length ∧ j < 60
    · obtain ⟨a, ts, hA, hC, hts⟩ := HI.out
      have HA := Aside0.mk hA
      have HC := Aside0.mk hC
      have HT := Aside0.mk hts
      clear hA hC hts HI
      have d1 : decide ((j : Int) < (l3.length : Int)) = true := decide_eq_true (by omega)
      have d1' : decide (j < l3.length) = true := decide_eq_true hgo.1
      have d2 : decide ((j : Int) < 60) = true := decide_eq_true (by omega)
      have d2' : decide (j < 60) = true := decide_eq_true hgo.2
      have HJ := Aside0.mk hgo
      have hx0 : (0 : Int) ≤ (j : Int) := by omega
      have hx1 : (j : Int) < (l3.length : Int) := by omega
      obtain ⟨ad, rfl, p0, p1, p2, p3, p4, p5, p6⟩ := at_T40 HR.out (j : Int) hx0 hx1
      have HOK := Aside0.mk (H2.out _ (c_mem hgo.1))
      obtain ⟨xx, hxx⟩ : ∃ xx, rd_T40 l3 (j : Int) = xx := ⟨_, rfl⟩
      rw [hxx, Int.toNat_natCast] at p0 p1 p2 p3 p4 p5 p6
      rw [hxx] at HOK
      have P0 := Aside0.mk p0
      have P1 := Aside0.mk p1
      have P2 := Aside0.mk p2
      have P3 := Aside0.mk p3
      have P4 := Aside0.mk p4
      have P5 := Aside0.mk p5
      have P6 := Aside0.mk p6
      clear p0 p1 p2 p3 p4 p5 p6
      have HQ : Aside0 (U64 xx.f1.f0) := ⟨c_u64 HOK.out.2.1.1⟩
      have hw : wrap64 ((j : Int) + 1) = (j : Int) + 1 := by unfold wrap64; omega
      have HH : Aside0 (60 - ((j : Int) + 1).toNat < 60 - ((j : Int)).toNat) := ⟨by omega⟩
      have HK : Aside0 (2 * j + 2 < 1000) := ⟨by omega⟩
      clear hxx hgo
      have q0 := pw_cell_below HA.out.aw.be P0.out
      have q1 := pw_cell_below HA.out.aw.be P1.out
      have q2 := pw_cell_below HA.out.aw.be P2.out
      go_upto_block 2 with fail
      go_cut [12] (fun s' wc => Aside0 (CR W b m B n.toNat (j + 1) s' wc))
      case first =>
        by_cases hk1 : xx.f0 = 1
        · have k1 : (xx.f0 == 1) = true := by simp [hk1]
          clear hk1
          by_cases htot : a.total < a.credit
          · obtain ⟨tq, htq⟩ : ∃ tq, ab a.start a.tail = tq := ⟨_, rfl⟩
            obtain ⟨te, hte⟩ : ∃ te, (a.epoch : Int) = te := ⟨_, rfl⟩
            have hcl : claimR a = (claimA a, .tuple #[.agg (aTick tq te), .int .i64 0]) := by unfold claimR; rw [if_pos htot, htq, hte]
            have hbnd := (HA.out.aw.ln.bnd (by have := HK.out; omega)).1
            have hly : layR (claimA a) tq te xx.f2.f0 xx.f2.f1 = (layA (claimA a) a.C.length xx.f2.f0 xx.f2.f1, 0) := by rw [← htq, ← hte]; exact lay_new hbnd _ _
            have HCI : Aside0 (CI n.toNat (layA (claimA a) a.C.length xx.f2.f0 xx.f2.f1) (ts ++ [(tq, te)])) := ⟨by rw [← htq, ← hte]; exact ci_claim HC.out _ _⟩
            have HCL := Aside0.mk hcl
            have HLY := Aside0.mk hly
            have HTQ : Aside0 (U64 tq) := ⟨by rw [← htq]; exact ab_u64 _ _⟩
            clear hcl hly hbnd htot htq hte
            go_upto_region 15 with (go_at_call 15; refine (A_claim HA.out.aw.ln).mono ?_; rewrite [HCL.out]; rintro e w5 ⟨rfl, hl5, hf5⟩; have HA2 := Aside0.mk ((HA.out.call hl5 hf5).alloc (.cells (aTick tq te) 34)); clear hl5 hf5)
            clear q0 q1 q2
            generalize w5.alloc (.cells (aTick tq te) 34) = w6 at HA2 ⊢
            generalize w5.heap.size = g at HA2 ⊢
            refine wp_region_held_drew (S := fun w' => Below W.heap.size W w' ∧ w'.heap[g]? = some (.cells (aTick tq te) 34 (0, 0))) (by kernel_rfl) ⟨HA2.out.aw.be.drew, (HA2.out.aw.obj (g, .cells (aTick tq te) 34) (by simp)).1⟩ (fun hHeld => ?_)
            refine take_at (i := 0) (v := _) 72 rfl rfl (by kernel_rfl) (by kernel_rfl) (by kernel_rfl) (fun _ _ _ h => h) (Or.inl ⟨by rfl, fun w' hW => by have hq0 := (tick_blk hW.2).1; have hq1 := (tick_blk hW.2).2; have hq2 := pw_cell_below hW.1 P3.out; have hq3 := pw_cell_below hW.1 P4.out; first | (go_simp; done) | (go_simp; with_reducible rfl) | (go_simp; rfl)⟩) hHeld ?_
            try simp only [Act.put, List.setIfInBounds_toArray, List.set_cons_zero, List.set_cons_succ]
            refine take_at (i := 1) (v := _) 73 rfl rfl (by kernel_rfl) (by kernel_rfl) (by kernel_rfl) (fun _ _ _ h => h) (Or.inl ⟨by rfl, fun w' hW => by have hq0 := (tick_blk hW.2).1; have hq1 := (tick_blk hW.2).2; have hq2 := pw_cell_below hW.1 P3.out; have hq3 := pw_cell_below hW.1 P4.out; first | (go_simp; done) | (go_simp; with_reducible rfl) | (go_simp; rfl)⟩) hHeld ?_
            try simp only [Act.put, List.setIfInBounds_toArray, List.set_cons_zero, List.set_cons_succ]
            refine take_at (i := 2) (v := _) 74 rfl rfl (by kernel_rfl) (by kernel_rfl) (by kernel_rfl) (fun _ _ _ h => h) (Or.inl ⟨by rfl, fun w' hW => by have hq0 := (tick_blk hW.2).1; have hq1 := (tick_blk hW.2).2; have hq2 := pw_cell_below hW.1 P3.out; have hq3 := pw_cell_below hW.1 P4.out; first | (go_simp; done) | (go_simp; with_reducible rfl) | (go_simp; rfl)⟩) hHeld ?_
            try simp only [Act.put, List.setIfInBounds_toArray, List.set_cons_zero, List.set_cons_succ]
            refine take_at (i := 3) (v := _) 75 rfl rfl (by kernel_rfl) (by kernel_rfl) (by kernel_rfl) (fun _ _ _ h => h) (Or.inl ⟨by rfl, fun w' hW => by have hq0 := (tick_blk hW.2).1; have hq1 := (tick_blk hW.2).2; have hq2 := pw_cell_below hW.1 P3.out; have hq3 := pw_cell_below hW.1 P4.out; first | (go_simp; done) | (go_simp; with_reducible rfl) | (go_simp; rfl)⟩) hHeld ?_
            try simp only [Act.put, List.setIfInBounds_toArray, List.set_cons_zero, List.set_cons_succ]
            refine take_at (i := 4) (v := _) 76 rfl rfl (by kernel_rfl) (by kernel_rfl) (by kernel_rfl) (fun _ _ _ h => h) (Or.inl ⟨by rfl, fun w' hW => by have hq0 := (tick_blk hW.2).1; have hq1 := (tick_blk hW.2).2; have hq2 := pw_cell_below hW.1 P3.out; have hq3 := pw_cell_below hW.1 P4.out; first | (go_simp; done) | (go_simp; with_reducible rfl) | (go_simp; rfl)⟩) hHeld ?_
            try simp only [Act.put, List.setIfInBounds_toArray, List.set_cons_zero, List.set_cons_succ]
            refine take_at (i := 5) (v := _) 77 rfl rfl (by kernel_rfl) (by kernel_rfl) (by kernel_rfl) (fun _ _ _ h => h) (Or.inl ⟨by rfl, fun w' hW => by have hq0 := (tick_blk hW.2).1; have hq1 := (tick_blk hW.2).2; have hq2 := pw_cell_below hW.1 P3.out; have hq3 := pw_cell_below hW.1 P4.out; first | (go_simp; done) | (go_simp; with_reducible rfl) | (go_simp; rfl)⟩) hHeld ?_
            try simp only [Act.put, List.setIfInBounds_toArray, List.set_cons_zero, List.set_cons_succ]
            refine take_at (i := 6) (v := _) 78 rfl rfl (by kernel_rfl) (by kernel_rfl) (by kernel_rfl) (fun _ _ _ h => h) (Or.inl ⟨by rfl, fun w' hW => by have hq0 := (tick_blk hW.2).1; have hq1 := (tick_blk hW.2).2; have hq2 := pw_cell_below hW.1 P3.out; have hq3 := pw_cell_below hW.1 P4.out; first | (go_simp; done) | (go_simp; with_reducible rfl) | (go_simp; rfl)⟩) hHeld ?_
            try simp only [Act.put, List.setIfInBounds_toArray, List.set_cons_zero, List.set_cons_succ]
            refine take_at (i := 7) (v := _) 79 rfl rfl (by kernel_rfl) (by kernel_rfl) (by kernel_rfl) (fun _ _ _ h => h) (Or.inl ⟨by rfl, fun w' hW => by have hq0 := (tick_blk hW.2).1; have hq1 := (tick_blk hW.2).2; have hq2 := pw_cell_below hW.1 P3.out; have hq3 := pw_cell_below hW.1 P4.out; first | (go_simp; done) | (go_simp; with_reducible rfl) | (go_simp; rfl)⟩) hHeld ?_
            try simp only [Act.put, List.setIfInBounds_toArray, List.set_cons_zero, List.set_cons_succ]
            refine take_at (i := 8) (v := _) 80 rfl rfl (by kernel_rfl) (by kernel_rfl) (by kernel_rfl) (fun _ _ _ h => h) (Or.inl ⟨by rfl, fun w' hW => by have hq0 := (tick_blk hW.2).1; have hq1 := (tick_blk hW.2).2; have hq2 := pw_cell_below hW.1 P3.out; have hq3 := pw_cell_below hW.1 P4.out; first | (go_simp; done) | (go_simp; with_reducible rfl) | (go_simp; rfl)⟩) hHeld ?_
            try simp only [Act.put, List.setIfInBounds_toArray, List.set_cons_zero, List.set_cons_succ]
            refine take_at (i := 9) (v := _) 81 rfl rfl (by kernel_rfl) (by kernel_rfl) (by kernel_rfl) (fun _ _ _ h => h) (Or.inl ⟨by rfl, fun w' hW => by have hq0 := (tick_blk hW.2).1; have hq1 := (tick_blk hW.2).2; have hq2 := pw_cell_below hW.1 P3.out; have hq3 := pw_cell_below hW.1 P4.out; first | (go_simp; done) | (go_simp; with_reducible rfl) | (go_simp; rfl)⟩) hHeld ?_
            try simp only [Act.put, List.setIfInBounds_toArray, List.set_cons_zero, List.set_cons_succ]
            have HA3 := Aside0.mk (HA2.out.below (Below.refl _ _).drew)
            clear hHeld
            generalize w6.drew = w7 at HA3 ⊢
            refine wpAnyH_ready (rs := [10]) (by kernel_rfl) (by simp) ?_
            refine AllReadyH.cons rfl (fun K hK => ?_) AllReadyH.nil
            go_simp
            go_wp2_with (go_at_call 16; refine (A_lay HA3.out.aw.ln (by have := HK.out; omega) tq te xx.f2.f0 xx.f2.f1 HTQ.out).mono ?_; rewrite [HLY.out]; rintro e w8 ⟨rfl, hl8, hf8⟩; have HA4 := Aside0.mk (HA3.out.call hl8 hf8); clear hl8 hf8)
            refine hK.out _ _ ⟨HA4.out.aw.be, (HA4.out.aw.obj (g, .cells (aTick tq te) 34) (by simp)).1⟩ (fun hHeld => ?_)
            clear hK K
            try simp only [Act.put, List.setIfInBounds_toArray, List.set_cons_zero, List.set_cons_succ]
            refine take_at (i := 11) (v := _) 83 rfl rfl (by kernel_rfl) (by kernel_rfl) (by kernel_rfl) (fun _ _ _ h => h) (Or.inl ⟨by rfl, fun w' hW => by have hq0 := (tick_blk hW.2).1; have hq1 := (tick_blk hW.2).2; have hq2 := pw_cell_below hW.1 P3.out; have hq3 := pw_cell_below hW.1 P4.out; first | (go_simp; done) | (go_simp; with_reducible rfl) | (go_simp; rfl)⟩) hHeld ?_
            try simp only [Act.put, List.setIfInBounds_toArray, List.set_cons_zero, List.set_cons_succ]
            refine take_at (i := 12) (v := _) 84 rfl rfl (by kernel_rfl) (by kernel_rfl) (by kernel_rfl) (fun _ _ _ h => h) (Or.inl ⟨by rfl, fun w' hW => by have hq0 := (tick_blk hW.2).1; have hq1 := (tick_blk hW.2).2; have hq2 := pw_cell_below hW.1 P3.out; have hq3 := pw_cell_below hW.1 P4.out; first | (go_simp; done) | (go_simp; with_reducible rfl) | (go_simp; rfl)⟩) hHeld ?_
            try simp only [Act.put, List.setIfInBounds_toArray, List.set_cons_zero, List.set_cons_succ]
            refine wpAnyH_done (by kernel_rfl) ?_ _
            clear hHeld
            have s0 : w8.cell? ⟨g, 0, none⟩ = some (.int .u64 tq) := (HA4.out.aw.ptr (C := aTick tq te) (t := 34) (by simp) 0).1
            have s1 : w8.cell? ⟨g, 1, none⟩ = some (.int .u64 te) := (HA4.out.aw.ptr (C := aTick tq te) (t := 34) (by simp) 1).1
            go_upto_region 18 with fail
            go_wp2_with (first | ((with_reducible refine gate_builtin (b := .append) rfl ?_); at_builtin; go_loud (refine wpList_append_own _ rfl (.tmp 87) (.tmp 89) 45 rfl B 34 i0 _ 2 16 Try.underlying45 HI0.out.1 HI0.out.2.1 HI0.out.2.2.1 HI0.out.2.2.2 rfl (by decide) u12 ts.length (fT ts) rfl (HA4.out.own.alloc _) _ 1 1 [.int .u64 tq, .int .u64 te] rfl rfl (cells_new _ _ _) (by intro u hu; simp only [List.mem_cons, List.not_mem_nil, or_false] at hu; rcases hu with rfl | rfl <;> rfl) (by have := HT.out; unfold maxLen; omega) (by have := HT.out; omega) (HA4.out.alloc (.cells (aTick tq te) 34)).sz ?_); intro v' w9 hown' hgrow _; have HA5 := Aside0.mk ((HA4.out.alloc (.cells (aTick tq te) 34)).app hgrow hown'); clear hown' hgrow))
            go_meet
            exact ⟨⟨_, _, HA5.out, HCI.out, by have := HT.out; rw [List.length_append]; simp; omega⟩⟩
          · have hcl : claimR a = (a, .tuple #[.agg (aTick 0 0), .int .i64 81]) := by unfold claimR; rw [if_neg htot]
            have HCL := Aside0.mk hcl
            clear hcl htot
            go_upto_region 15 with (go_at_call 15; refine (A_claim HA.out.aw.ln).mono ?_; rewrite [HCL.out]; rintro e w5 ⟨rfl, hl5, hf5⟩; have HA2 := Aside0.mk ((HA.out.call hl5 hf5).alloc (.cells (aTick 0 0) 34)); clear hl5 hf5)
            clear q0 q1 q2
            generalize w5.alloc (.cells (aTick 0 0) 34) = w6 at HA2 ⊢
            go_quiet (fail)
            have HA3 := Aside0.mk (HA2.out.below (pw_below_drewN (Below.refl _ _) nq))
            go_wp2_with fail
            go_meet
            exact ⟨⟨_, _, (HA3.out.mono (by omega)).sub (fun p hp => by simp [hp]), HC.out, by have := HT.out; omega⟩⟩
        · skip
          by_cases hk6 : xx.f0 = 6
          · obtain ⟨rn, rg, rq, rp, er, hcl⟩ := takeR_sh a
            have HCL := Aside0.mk hcl
            clear hcl
            have k1 : (xx.f0 == 1) = false := by simp [hk1]
            have k6 : (xx.f0 == 6) = true := by simp [hk6]
            clear hk1 hk6
            go_wp2_with (go_at_call 17; refine (A_take HA.out.aw.ln (by have := HK.out; omega)).mono ?_; rewrite [HCL.out]; rintro e w5 ⟨rfl, hl5, hf5⟩; have HA2 := Aside0.mk (HA.out.call hl5 hf5); clear hl5 hf5)
            go_meet
            exact ⟨⟨_, _, HA2.out.mono (by omega), ci_take HC.out, by have := HT.out; omega⟩⟩
          · skip
            by_cases hk7 : xx.f0 = 7
            · obtain ⟨rn, rg, rb, er, hcl⟩ := retR_sh a xx.f1.f0 xx.f1.f1
              have HCL := Aside0.mk hcl
              clear hcl
              have k1 : (xx.f0 == 1) = false := by simp [hk1]
              have k6 : (xx.f0 == 6) = false := by simp [hk6]
              have k7 : (xx.f0 == 7) = true := by simp [hk7]
              clear hk1 hk6 hk7
              go_wp2_with (go_at_call 19; refine (A_ret HA.out.aw.ln (by have := HK.out; omega) xx.f1.f0 xx.f1.f1 HQ.out).mono ?_; rewrite [HCL.out]; rintro e w5 ⟨rfl, hl5, hf5⟩; have HA2 := Aside0.mk (HA.out.call hl5 hf5); clear hl5 hf5)
              go_meet
              exact ⟨⟨_, _, HA2.out.mono (by omega), ci_ret HC.out _ _, by have := HT.out; omega⟩⟩
            · skip
              by_cases hk8 : xx.f0 = 8
              · have k1 : (xx.f0 == 1) = false := by simp [hk1]
                have k6 : (xx.f0 == 6) = false := by simp [hk6]
                have k7 : (xx.f0 == 7) = false := by simp [hk7]
                have k8 : (xx.f0 == 8) = true := by simp [hk8]
                clear hk1 hk6 hk7 hk8
                go_wp2_with (go_at_call 18; refine (A_reset HA.out.aw.ln (by have := HK.out; omega)).mono ?_; rintro e w5 ⟨rA, rc, rfl, _, _, _, hl5, hf5⟩; have HA2 := Aside0.mk (HA.out.call hl5 hf5); clear hl5 hf5)
                go_meet
                exact ⟨⟨_, _, HA2.out.mono (by omega), ci_reset HC.out, by have := HT.out; omega⟩⟩
              · skip
                have k1 : (xx.f0 == 1) = false := by simp [hk1]
                have k6 : (xx.f0 == 6) = false := by simp [hk6]
                have k7 : (xx.f0 == 7) = false := by simp [hk7]
                have k8 : (xx.f0 == 8) = false := by simp [hk8]
                clear hk1 hk6 hk7 hk8
                clear q0 q1 q2
                go_upto_region 12 with fail
                refine wp_region_held_drew (S := fun w' => Below W.heap.size W w') (by kernel_rfl) HA.out.aw.be.drew (fun hHeld => ?_)
                refine take_at (i := 0) (v := _) 53 rfl rfl (by kernel_rfl) (by kernel_rfl) (by kernel_rfl) (fun _ _ _ h => h) (Or.inl ⟨by rfl, fun w' hW => by have hq0 := pw_cell_below hW P1.out; have hq1 := pw_cell_below hW P2.out; have hq2 := pw_cell_below hW P5.out; have hq3 := pw_cell_below hW P6.out; first | (go_simp; done) | (go_simp; with_reducible rfl) | (go_simp; rfl)⟩) hHeld ?_
                try simp only [Act.put, List.setIfInBounds_toArray, List.set_cons_zero, List.set_cons_succ]
                refine take_at (i := 1) (v := _) 54 rfl rfl (by kernel_rfl) (by kernel_rfl) (by kernel_rfl) (fun _ _ _ h => h) (Or.inl ⟨by rfl, fun w' hW => by have hq0 := pw_cell_below hW P1.out; have hq1 := pw_cell_below hW P2.out; have hq2 := pw_cell_below hW P5.out; have hq3 := pw_cell_below hW P6.out; first | (go_simp; done) | (go_simp; with_reducible rfl) | (go_simp; rfl)⟩) hHeld ?_
                try simp only [Act.put, List.setIfInBounds_toArray, List.set_cons_zero, List.set_cons_succ]
                refine take_at (i := 2) (v := _) 55 rfl rfl (by kernel_rfl) (by kernel_rfl) (by kernel_rfl) (fun _ _ _ h => h) (Or.inl ⟨by rfl, fun w' hW => by have hq0 := pw_cell_below hW P1.out; have hq1 := pw_cell_below hW P2.out; have hq2 := pw_cell_below hW P5.out; have hq3 := pw_cell_below hW P6.out; first | (go_simp; done) | (go_simp; with_reducible rfl) | (go_simp; rfl)⟩) hHeld ?_
                try simp only [Act.put, List.setIfInBounds_toArray, List.set_cons_zero, List.set_cons_succ]
                refine take_at (i := 3) (v := _) 56 rfl rfl (by kernel_rfl) (by kernel_rfl) (by kernel_rfl) (fun _ _ _ h => h) (Or.inl ⟨by rfl, fun w' hW => by have hq0 := pw_cell_below hW P1.out; have hq1 := pw_cell_below hW P2.out; have hq2 := pw_cell_below hW P5.out; have hq3 := pw_cell_below hW P6.out; first | (go_simp; done) | (go_simp; with_reducible rfl) | (go_simp; rfl)⟩) hHeld ?_
                try simp only [Act.put, List.setIfInBounds_toArray, List.set_cons_zero, List.set_cons_succ]
                refine take_at (i := 4) (v := _) 57 rfl rfl (by kernel_rfl) (by kernel_rfl) (by kernel_rfl) (fun _ _ _ h => h) (Or.inl ⟨by rfl, fun w' hW => by have hq0 := pw_cell_below hW P1.out; have hq1 := pw_cell_below hW P2.out; have hq2 := pw_cell_below hW P5.out; have hq3 := pw_cell_below hW P6.out; first | (go_simp; done) | (go_simp; with_reducible rfl) | (go_simp; rfl)⟩) hHeld ?_
                try simp only [Act.put, List.setIfInBounds_toArray, List.set_cons_zero, List.set_cons_succ]
                refine take_at (i := 5) (v := _) 58 rfl rfl (by kernel_rfl) (by kernel_rfl) (by kernel_rfl) (fun _ _ _ h => h) (Or.inl ⟨by rfl, fun w' hW => by have hq0 := pw_cell_below hW P1.out; have hq1 := pw_cell_below hW P2.out; have hq2 := pw_cell_below hW P5.out; have hq3 := pw_cell_below hW P6.out; first | (go_simp; done) | (go_simp; with_reducible rfl) | (go_simp; rfl)⟩) hHeld ?_
                try simp only [Act.put, List.setIfInBounds_toArray, List.set_cons_zero, List.set_cons_succ]
                refine take_at (i := 6) (v := _) 59 rfl rfl (by kernel_rfl) (by kernel_rfl) (by kernel_rfl) (fun _ _ _ h => h) (Or.inl ⟨by rfl, fun w' hW => by have hq0 := pw_cell_below hW P1.out; have hq1 := pw_cell_below hW P2.out; have hq2 := pw_cell_below hW P5.out; have hq3 := pw_cell_below hW P6.out; first | (go_simp; done) | (go_simp; with_reducible rfl) | (go_simp; rfl)⟩) hHeld ?_
                try simp only [Act.put, List.setIfInBounds_toArray, List.set_cons_zero, List.set_cons_succ]
                refine take_at (i := 7) (v := _) 60 rfl rfl (by kernel_rfl) (by kernel_rfl) (by kernel_rfl) (fun _ _ _ h => h) (Or.inl ⟨by rfl, fun w' hW => by have hq0 := pw_cell_below hW P1.out; have hq1 := pw_cell_below hW P2.out; have hq2 := pw_cell_below hW P5.out; have hq3 := pw_cell_below hW P6.out; first | (go_simp; done) | (go_simp; with_reducible rfl) | (go_simp; rfl)⟩) hHeld ?_
                try simp only [Act.put, List.setIfInBounds_toArray, List.set_cons_zero, List.set_cons_succ]
                refine take_at (i := 8) (v := _) 61 rfl rfl (by kernel_rfl) (by kernel_rfl) (by kernel_rfl) (fun _ _ _ h => h) (Or.inl ⟨by rfl, fun w' hW => by have hq0 := pw_cell_below hW P1.out; have hq1 := pw_cell_below hW P2.out; have hq2 := pw_cell_below hW P5.out; have hq3 := pw_cell_below hW P6.out; first | (go_simp; done) | (go_simp; with_reducible rfl) | (go_simp; rfl)⟩) hHeld ?_
                try simp only [Act.put, List.setIfInBounds_toArray, List.set_cons_zero, List.set_cons_succ]
                refine take_at (i := 9) (v := _) 62 rfl rfl (by kernel_rfl) (by kernel_rfl) (by kernel_rfl) (fun _ _ _ h => h) (Or.inl ⟨by rfl, fun w' hW => by have hq0 := pw_cell_below hW P1.out; have hq1 := pw_cell_below hW P2.out; have hq2 := pw_cell_below hW P5.out; have hq3 := pw_cell_below hW P6.out; first | (go_simp; done) | (go_simp; with_reducible rfl) | (go_simp; rfl)⟩) hHeld ?_
                try simp only [Act.put, List.setIfInBounds_toArray, List.set_cons_zero, List.set_cons_succ]
                refine take_at (i := 10) (v := _) 63 rfl rfl (by kernel_rfl) (by kernel_rfl) (by kernel_rfl) (fun _ _ _ h => h) (Or.inl ⟨by rfl, fun w' hW => by have hq0 := pw_cell_below hW P1.out; have hq1 := pw_cell_below hW P2.out; have hq2 := pw_cell_below hW P5.out; have hq3 := pw_cell_below hW P6.out; first | (go_simp; done) | (go_simp; with_reducible rfl) | (go_simp; rfl)⟩) hHeld ?_
                try simp only [Act.put, List.setIfInBounds_toArray, List.set_cons_zero, List.set_cons_succ]
                have HA2 := Aside0.mk (HA.out.below (Below.refl _ _).drew)
                clear hHeld HA
                generalize wr.drew = w5 at HA2 ⊢
                refine wpAnyH_ready (rs := [11]) (by kernel_rfl) (by simp) ?_
                refine AllReadyH.cons rfl (fun K hK => ?_) AllReadyH.nil
                go_simp
                go_wp2_with (go_at_call 20; refine (A_pub HA2.out.aw.ln (by have := HK.out; omega) xx.f1.f0 xx.f1.f1 xx.f3.f0 xx.f3.f1 HQ.out).mono ?_; rintro e w6 ⟨rfl, hl6, hf6⟩; have HA3 := Aside0.mk (HA2.out.call hl6 hf6); clear hl6 hf6 HA2)
                refine hK.out _ _ HA3.out.aw.be (fun hHeld => ?_)
                clear hK K
                try simp only [Act.put, List.setIfInBounds_toArray, List.set_cons_zero, List.set_cons_succ]
                refine wpAnyH_done (by kernel_rfl) ?_ _
                clear hHeld
                go_wp2_with fail
                go_meet
                exact ⟨⟨_, _, HA3.out.mono (by omega), ci_pub HC.out _ _ _ _, by have := HT.out; omega⟩⟩
      case rest =>
        obtain ⟨a, ts, hA, hC, hts⟩ := hcut.out
        have HA := Aside0.mk hA
        have HC := Aside0.mk hC
        have HT := Aside0.mk hts
        clear hA hC hts hcut
        obtain ⟨A, c, rfl, hcl, _⟩ := HA.out.reads
        obtain ⟨v1, v2, v3, v4, v5, v6, hst, g1, g2, g3, g4, g5, g6, g7⟩ := state_ok hn1 HC.out (HA.out.aw.ln.bnd (by have := HK.out; omega))
        have HST := Aside0.mk hst
        have HG7 := Aside0.mk g7
        have g8 : v1 + v2 + v3 + v4 + v5 = n := by omega
        clear hst g7 g6
        have y1 : decide (v1 < 0) = false := decide_eq_false (by omega)
        have y2 : decide (v2 < 0) = false := decide_eq_false (by omega)
        have y3 : decide (v3 < 0) = false := decide_eq_false (by omega)
        have y4 : decide (v4 < 0) = false := decide_eq_false (by omega)
        have y5 : decide (v5 < 0) = false := decide_eq_false (by omega)
        have z1 : wrap64 (v1 + v2) = v1 + v2 := by unfold wrap64; omega
        have z2 : wrap64 (v1 + v2 + v3) = v1 + v2 + v3 := by unfold wrap64; omega
        have z3 : wrap64 (v1 + v2 + v3 + v4) = v1 + v2 + v3 + v4 := by unfold wrap64; omega
        have z4 : wrap64 (v1 + v2 + v3 + v4 + v5) = n := by unfold wrap64; omega
        clear g1 g3 g4 g5 g8
        go_upto_region 26 with (go_at_call 13; refine (A_state HA.out.aw.ln (by have := HK.out; omega)).mono ?_; rewrite [HST.out]; rintro e w5 ⟨rfl, hb5⟩; have HA2 := Aside0.mk ((HA.out.below hb5).alloc (.cells (aSt v1 v2 v3 v4 v5 v6) 42)); clear hb5 HA)
        generalize w5.alloc (.cells (aSt v1 v2 v3 v4 v5 v6) 42) = w6 at HA2 ⊢
        generalize w5.heap.size = g at HA2 ⊢
        have s0 : w6.cell? ⟨g, 0, none⟩ = some (.int .i64 v1) := (HA2.out.aw.ptr (C := aSt v1 v2 v3 v4 v5 v6) (t := 42) (by simp) 0).1
        have s1 : w6.cell? ⟨g, 1, none⟩ = some (.int .i64 v2) := (HA2.out.aw.ptr (C := aSt v1 v2 v3 v4 v5 v6) (t := 42) (by simp) 1).1
        have s2 : w6.cell? ⟨g, 2, none⟩ = some (.int .i64 v3) := (HA2.out.aw.ptr (C := aSt v1 v2 v3 v4 v5 v6) (t := 42) (by simp) 2).1
        have s3 : w6.cell? ⟨g, 3, none⟩ = some (.int .i64 v4) := (HA2.out.aw.ptr (C := aSt v1 v2 v3 v4 v5 v6) (t := 42) (by simp) 3).1
        have s4 : w6.cell? ⟨g, 4, none⟩ = some (.int .i64 v5) := (HA2.out.aw.ptr (C := aSt v1 v2 v3 v4 v5 v6) (t := 42) (by simp) 4).1
        have HKJ : Aside0 (2 * (j + 1) < 1000000) := ⟨by have := HK.out; omega⟩
        go_upto_region 28 with fail
        clear y1 y2 y3 y4 y5 z1 z2 z3 z4 s0 s1 s2 s3 s4
        go_wp2
        have HQ0 : Aside0 (CQ W b m B (2 * (j + 1)) a (.slice A ts.length c) ts [(g, .cells (aSt v1 v2 v3 v4 v5 v6) 42)] 0 0 w6) := ⟨HA2.out, rc_zero _ _⟩
        go_loopw [17, 18] (fun r i wr => ∃ i0 r0 : Nat, i0 ≤ ts.length ∧ i = .int .i64 (i0 : Int) ∧ r = .int .i64 (r0 : Int) ∧ Aside0 (CQ W b m B (2 * (j + 1)) a (.slice A ts.length c) ts [(g, .cells (aSt v1 v2 v3 v4 v5 v6) 42)] i0 r0 wr)) (fun _ i _ => ts.length - (intOf i).toNat)
        case atStart => exact ⟨0, 0, Nat.zero_le _, rfl, rfl, HQ0⟩
        case round =>
          clear HQ0 HA2
          obtain ⟨i, r, hil, rfl, rfl, HS⟩ := hrel
          by_cases hlt : i < ts.length
          · have x1 : decide ((i : Int) < (ts.length : Int)) = true := decide_eq_true (Int.ofNat_lt.2 hlt)
            have x1' : decide (i < ts.length) = true := decide_eq_true hlt
            obtain ⟨ad, rfl, c0, c1⟩ := HS.out.1.tks i ts[i] (List.getElem?_eq_getElem hlt)
            have HP : Aside0 (U64 ts[i].1) := ⟨HC.out.u _ (List.getElem_mem hlt)⟩
            have HE : Aside0 (ts[i]? = some ts[i]) := ⟨List.getElem?_eq_getElem hlt⟩
            have b1 : (0 : Int) ≤ (i : Int) := Int.natCast_nonneg i
            have b2 : (i : Int) < (ts.length : Int) := Int.ofNat_lt.2 hlt
            have ht : ((i : Int)).toNat = i := Int.toNat_natCast i
            have hr1 := HS.out.2.1
            have hts61 : ts.length ≤ 61 := Nat.le_trans HT.out (Nat.succ_le_succ hj60)
            have hwi : wrap64 ((i : Int) + 1) = (i : Int) + 1 := w64_nat (Nat.lt_of_lt_of_le hlt (Nat.le_trans hts61 (by decide)))
            have hwr : wrap64 ((r : Int) + 1) = (r : Int) + 1 := w64_nat (Nat.lt_of_le_of_lt hr1 (Nat.lt_of_lt_of_le hlt (Nat.le_trans hts61 (by decide))))
            have HHi : Aside0 (ts.length - ((i : Int) + 1).toNat < ts.length - ((i : Int)).toNat) := ⟨meas_nat hlt⟩
            have HL : Aside0 (i + 1 ≤ ts.length) := ⟨hlt⟩
            generalize ts[i] = p at c0 c1 HP HE
            clear hlt hr1 hil hts61
            cases hrd : readyR a p.1 p.2
            · have HRD := Aside0.mk hrd
              clear hrd
              go_wp2_with (go_at_call 21; refine (A_ready HS.out.1.aw.ln HKJ.out p.1 p.2 HP.out).mono ?_; rewrite [HRD.out]; rintro e w7 ⟨rfl, hb7⟩; have HS3 := Aside0.mk (HS.out.1.below hb7); clear hb7)
              go_roundw
              case rel => exact ⟨i + 1, r, HL.out, (by first | rfl | (rw [hwi]; rfl)), (by first | rfl | (rw [hwr]; rfl)), ⟨HS3.out, rc_no HS.out.2 HE.out HRD.out⟩⟩
              case measure => first | exact HHi.out | (simp only [hwi]; exact HHi.out)
            · have HRD := Aside0.mk hrd
              clear hrd
              go_wp2_with (go_at_call 21; refine (A_ready HS.out.1.aw.ln HKJ.out p.1 p.2 HP.out).mono ?_; rewrite [HRD.out]; rintro e w7 ⟨rfl, hb7⟩; have HS3 := Aside0.mk (HS.out.1.below hb7); clear hb7)
              go_roundw
              case rel => exact ⟨i + 1, r + 1, HL.out, (by first | rfl | (rw [hwi]; rfl)), (by first | rfl | (rw [hwr]; rfl)), ⟨HS3.out, rc_yes HS.out.2⟩⟩
              case measure => first | exact HHi.out | (simp only [hwi]; exact HHi.out)
          · have x1 : decide ((i : Int) < (ts.length : Int)) = false := decide_eq_false (fun h => hlt (Int.ofNat_lt.1 h))
            have x1' : decide (i < ts.length) = false := decide_eq_false hlt
            have HS2 := Aside0.mk HS.out.1
            have s1 : wr.cell? ⟨g, 1, none⟩ = some (.int .i64 v2) := (HS2.out.aw.ptr (C := aSt v1 v2 v3 v4 v5 v6) (t := 42) (by simp) 1).1
            have HCR : Aside0 (CR W b m B n.toNat (j + 1) (.slice A ts.length c) wr) := ⟨⟨a, ts, HS2.out.sub (fun p hp => by cases hp), HC.out, HT.out⟩⟩
            by_cases hv : 0 < v2
            · have y1 : decide (v2 > 0) = true := decide_eq_true hv
              have y2 : decide (0 < v2) = true := decide_eq_true hv
              have hr1 : 1 ≤ r := rc_end HS.out.2 (Nat.le_of_not_lt hlt) (ci_ready HC.out (HS2.out.aw.ln.bnd HKJ.out).1 (HG7.out hv))
              obtain ⟨y3, y4, y5, y6⟩ := cr_ne hr1
              clear HS HS2 hlt hil
              go_wp2
              go_roundw
              case rel => exact ⟨j + 1, HJ.out.2, by go_num, HCR⟩
              case measure => first | exact HH.out | (simp only [hw]; exact HH.out)
            · have y1 : decide (v2 > 0) = false := decide_eq_false hv
              have y2 : decide (0 < v2) = false := decide_eq_false hv
              clear HS HS2 hlt hil
              go_wp2
              go_roundw
              case rel => exact ⟨j + 1, HJ.out.2, by go_num, HCR⟩
              case measure => first | exact HH.out | (simp only [hw]; exact HH.out)
    · have hend : (decide (j < l3.length) && decide (j < 60)) = false := by simp; omega
      have d3 : ¬ ((j : Int) < (l3.length : Int) ∧ (j : Int) < 60) := by omega
      obtain ⟨a, ts, hA, hC, hts⟩ := HI.out
      have HBE := Aside0.mk hA.aw.be
      clear hA hC hts HI
      by_cases hl : j < l3.length
      · have d1 : decide ((j : Int) < (l3.length : Int)) = true := decide_eq_true (by omega)
        have d1' : decide (j < l3.length) = true := decide_eq_true hl
        have d2 : decide ((j : Int) < 60) = false := decide_eq_false (by omega)
        have d2' : decide (j < 60) = false := decide_eq_false (by omega)
        clear hend d3 hgo hl
        go_wp2
        go_ret
        exact ⟨rfl, HBE.out⟩
      · have d1 : decide ((j : Int) < (l3.length : Int)) = false := decide_eq_false (by omega)
        have d1' : decide (j < l3.length) = false := decide_eq_false hl
        clear hend d3 hgo hl
        go_wp2
        go_ret
        exact ⟨rfl, HBE.out⟩
end Go.Proofs.Ytglekbbdbnpohaa.QLn
