/- Lane: LaneOneWay: the plain law and the walk. Written by a program of this repo (tools/gen_loneway.py). -/
import Derived.Test.YtglekbbdbnpohaaA2Ln
namespace Go.Proofs.Ytglekbbdbnpohaa.QLn
open Go.RowKit Go.Proofs.YtglekbbdbnpohaaW.PrintWords Go.Proofs.YtglekbbdbnpohaaW.PrintLast Go.Proofs.YtglekbbdbnpohaaW.PrintMore
set_option linter.unusedVariables false
set_option linter.unusedSimpArgs false
/-! ### The plain law: what a sender sees of two one-way lanes -/
structure OW (a a' : AS) : Prop where
  cr : a.credit = a'.credit
  tw : a.two = false
  st : a.start = a'.start
  ep : a.epoch = a'.epoch
  rd : a.ready = a'.ready
  C : a.C = a'.C
  tot : a.total = a'.total
theorem OW.tail {a a' : AS} (h : OW a a') : a.tail = a'.tail := by unfold AS.tail; rw [h.rd, h.C]
theorem OW.inC {a a' : AS} (h : OW a a') (o : Nat) : inC a o = QLn.inC a' o := by unfold QLn.inC; rw [h.rd, h.tail]
theorem ow_new (c : Nat) (st : Int) : OW (newA c false st) (newA c false st) := ⟨rfl, rfl, rfl, rfl, rfl, rfl, rfl⟩
theorem ow_claim {a a' : AS} (h : OW a a') : (claimR a).2 = (claimR a').2 ∧ OW (claimR a).1 (claimR a').1 := by
  unfold claimR
  rw [h.tot, h.cr]
  by_cases hc : a'.total < a'.credit
  · rw [if_pos hc, if_pos hc, h.st, h.tail, h.ep]
    refine ⟨rfl, h.cr, h.tw, h.st, h.ep, h.rd, ?_, ?_⟩
    · show a.C ++ _ = a'.C ++ _; rw [h.C]
    · have := h.tot; have := h.C; unfold AS.total claimA at *; simp only [List.length_append]; rw [h.C] at *; omega
  · rw [if_neg hc, if_neg hc]
    exact ⟨rfl, h⟩
theorem ow_lay {a a' : AS} (h : OW a a') (q ep n g : Int) : (layR a q ep n g).2 = (layR a' q ep n g).2 ∧ OW (layR a q ep n g).1 (layR a' q ep n g).1 := by
  unfold layR
  rw [h.ep, h.inC, h.st, h.rd]
  by_cases hc : ep = a'.epoch ∧ inC a' (off a'.start q) = true
  · rw [if_pos hc, if_pos hc]
    refine ⟨rfl, h.cr, h.tw, h.st, h.ep, h.rd, ?_, ?_⟩
    · show a.C.set _ _ = a'.C.set _ _; rw [h.C]
    · have := h.tot; unfold AS.total layA at *; simp only [List.length_set]; exact this
  · rw [if_neg hc, if_neg hc]
    exact ⟨rfl, h⟩
theorem ow_ready {a a' : AS} (h : OW a a') (q ep : Int) : readyR a q ep = readyR a' q ep := by
  unfold readyR
  rw [h.ep, h.st, h.rd, h.C]
theorem ow_pub {a a' : AS} (h : OW a a') (q ep x y : Int) : (pubR a q ep x y).2 = (pubR a' q ep x y).2 ∧ OW (pubR a q ep x y).1 (pubR a' q ep x y).1 := by
  unfold pubR
  rw [h.ep, h.inC, h.st, h.rd, h.C]
  by_cases hc : ep = a'.epoch ∧ inC a' (off a'.start q) = true
  · rw [if_pos hc, if_pos hc]
    cases hg : a'.C[off a'.start q - a'.ready]? with
    | none => exact ⟨rfl, h⟩
    | some c =>
      simp only
      by_cases hl : c.laid = false
      · rw [if_pos hl, if_pos hl]; exact ⟨rfl, h⟩
      · rw [if_neg hl, if_neg hl]
        by_cases h0 : off a'.start q ≠ a'.ready
        · rw [if_pos h0, if_pos h0]; exact ⟨rfl, h⟩
        · rw [if_neg h0, if_neg h0]
          have hl1 : 0 < a'.C.length := by have := (List.getElem?_eq_some_iff.1 hg).1; omega
          refine ⟨rfl, h.cr, h.tw, h.st, h.ep, ?_, rfl, ?_⟩
          · have := h.rd; unfold AS.ready pubA at *; simp only [List.length_append]; simp; omega
          · have := h.tot; have hC := h.C; unfold AS.total pubA at *; rw [hC] at this; simp only [List.length_append, List.length_tail]; simp; omega
  · rw [if_neg hc, if_neg hc]
    exact ⟨rfl, h⟩
theorem ow_take {a a' : AS} (h : OW a a') : OW (takeR a).1 a' := by
  unfold takeR
  cases hP : a.P with
  | nil => exact h
  | cons e P =>
    refine ⟨h.cr, h.tw, h.st, h.ep, ?_, h.C, ?_⟩
    · rw [← h.rd]; unfold AS.ready takeA; rw [hP]; simp; omega
    · rw [← h.tot]; unfold AS.total takeA; rw [hP]; simp; omega
theorem ow_ret {a a' : AS} (h : OW a a') (q ep : Int) : OW (retR a q ep).1 a' := by
  unfold retR
  by_cases he : ep ≠ a.epoch
  · rw [if_pos he]; exact h
  · rw [if_neg he]
    cases hf : findA a.A (off a.start q) with
    | none => exact h
    | some p =>
      simp only
      by_cases hh : p.held = true
      · rw [if_pos hh]; exact h
      · rw [if_neg hh, if_neg (by rw [h.tw]; decide)]
        refine ⟨h.cr, h.tw, h.st, h.ep, h.rd, h.C, ?_⟩
        rw [← h.tot]; unfold AS.total ret1A; simp only [List.length_map]
theorem ow_reset {a a' : AS} (h : OW a a') : (resetR a).2 = (resetR a').2 ∧ OW (resetR a).1 (resetR a').1 := by
  unfold resetR
  rw [h.C]
  by_cases hc : a'.C = []
  · rw [if_pos hc, if_pos hc]
    refine ⟨rfl, h.cr, h.tw, h.st, ?_, ?_, rfl, rfl⟩
    · show a.epoch + 1 = a'.epoch + 1; rw [h.ep]
    · show a.tail + 0 = a'.tail + 0; rw [h.tail]
  · rw [if_neg hc, if_neg hc]
    exact ⟨rfl, h⟩
/-! ### The walk -/
def OpOk (x : S40) : Prop := (Lit.int .i64 x.f0).wf = true ∧ ((Lit.int .u64 x.f1.f0).wf = true ∧ (Lit.int .u64 x.f1.f1).wf = true) ∧ ((Lit.int .i64 x.f2.f0).wf = true ∧ (Lit.int .u64 x.f2.f1).wf = true) ∧ ((Lit.int .i64 x.f3.f0).wf = true ∧ (Lit.int .i64 x.f3.f1).wf = true)
theorem wf_u64 {x : Int} (h : (Lit.int .u64 x).wf = true) : U64 x := by
  have hmin : IntKind.u64.min = 0 := rfl
  have hmax : IntKind.u64.max = 18446744073709551615 := rfl
  simp only [Lit.wf, Bool.and_eq_true, decide_eq_true_eq] at h
  unfold U64; omega
theorem wf_u8 {x : Int} (h : (Lit.int .u8 x).wf = true) : 0 ≤ x ∧ x ≤ 255 := by
  have hmin : IntKind.u8.min = 0 := rfl
  have hmax : IntKind.u8.max = 255 := rfl
  simp only [Lit.wf, Bool.and_eq_true, decide_eq_true_eq] at h
  omega
theorem rd_mem {l : List S40} {i : Nat} (h : i < l.length) : rd_T40 l (i : Int) ∈ l := by
  unfold rd_T40
  rw [Int.toNat_natCast, List.getD_eq_getElem?_getD, List.getElem?_eq_getElem h]
  exact List.getElem_mem h
abbrev aO (x : S40) : Array Value := #[.int .i64 x.f0, .int .u64 x.f1.f0, .int .u64 x.f1.f1, .int .i64 x.f2.f0, .int .u64 x.f2.f1, .int .i64 x.f3.f0, .int .i64 x.f3.f1]
theorem op_blk {w : World} {g : Nat} {x : S40} (h : w.heap[g]? = some (.cells (aO x) 40 (0, 0))) : w.cell? ⟨g, 0, none⟩ = some (.int .i64 x.f0) ∧ w.cell? ⟨g, 1, none⟩ = some (.int .u64 x.f1.f0) ∧ w.cell? ⟨g, 2, none⟩ = some (.int .u64 x.f1.f1) ∧ w.cell? ⟨g, 3, none⟩ = some (.int .i64 x.f2.f0) ∧ w.cell? ⟨g, 4, none⟩ = some (.int .u64 x.f2.f1) ∧ w.cell? ⟨g, 5, none⟩ = some (.int .i64 x.f3.f0) ∧ w.cell? ⟨g, 6, none⟩ = some (.int .i64 x.f3.f1) := by
  refine ⟨?_, ?_, ?_, ?_, ?_, ?_, ?_⟩ <;> (simp only [World.cell?, h]; rfl)
theorem field42 (a b c d e f : Int) (w : World) : (Instr.field 42 (.agg (aSt a b c d e f)) 0).run Try.prog w = .ok (.int .i64 a) w := by kernel_rfl
theorem claimR_shape (a : AS) : ∃ q ep er, (claimR a).2 = .tuple #[.agg (aTick q ep), .int .i64 er] := by
  unfold claimR
  split
  · exact ⟨_, _, _, rfl⟩
  · exact ⟨_, _, _, rfl⟩
theorem takeR_shape (a : AS) : ∃ n g q ep er, (takeR a).2 = .tuple #[.agg (aSlot n g), .agg (aTick q ep), .int .i64 er] := by
  unfold takeR
  split
  · exact ⟨_, _, _, _, _, rfl⟩
  · exact ⟨_, _, _, _, _, rfl⟩
theorem retR_shape (a : AS) (q ep : Int) : ∃ n g bk er, (retR a q ep).2 = .tuple #[.agg (aSlot n g), .bool bk, .int .i64 er] := by
  unfold retR
  split
  · exact ⟨_, _, _, _, rfl⟩
  · split
    · exact ⟨_, _, _, _, rfl⟩
    · split
      · exact ⟨_, _, _, _, rfl⟩
      · split
        · exact ⟨_, _, _, _, rfl⟩
        · exact ⟨_, _, _, _, rfl⟩
/-- What the loop of LaneOneWay keeps. -/
def OI (W : World) (b m b' m' : Nat) (i : Nat) (wr : World) : Prop := ∃ a a', Aw2 W b m a b' m' a' (2 * i) [] wr ∧ OW a a'
set_option maxRecDepth 100000 in
set_option maxHeartbeats 8000000 in
theorem LaneOneWay_hand (a0 a1 : Int) (A2 : Option Addr) (c2 : Nat) (l2 : List S40) (W : World) (hr2 : Kd.C k40 W A2 l2.length l2) (hc2 : l2.length ≤ c2) (h0 : (Lit.int .u8 a0).wf = true) (h1 : (Lit.int .u64 a1).wf = true) (h2 : l2.length * 56 ≤ 140737488351232 ∧ ∀ x ∈ l2, OpOk x) :
    Calls Try.prog 6 #[.int .u8 a0, .int .u64 a1, .slice A2 l2.length c2] W fun e w' => e = .returned (.bool true) ∧ Below W.heap.size W w' := by
  have HR := Aside0.mk hr2
  have H1 := Aside0.mk (wf_u64 h1)
  have H2 := Aside0.mk h2.2
  have H20 := Aside0.mk h2.1
  have hb0 := wf_u8 h0
  have e1 : IntKind.i64.wrap a0 = a0 := by rw [IntKind.wrap_i64]; omega
  have e2 : a0.tmod 64 = a0 % 64 := by rw [Int.tmod_eq_emod_of_nonneg hb0.1]
  have e3 : wrap64 (a0 % 64 + 1) = a0 % 64 + 1 := by unfold wrap64; omega
  obtain ⟨n, hn⟩ : ∃ n, a0 % 64 + 1 = n := ⟨_, rfl⟩
  have hn1 : 1 ≤ n := by omega
  have hn2 : n ≤ 64 := by omega
  rw [hn] at e3
  clear hr2 h1 h2 h0
  go_enter Try.func6, Try.ntmps6
  go_upto_region 4 with (go_at_call 9; refine (awake_calls _).mono ?_; rintro e w1 ⟨rfl, hb1⟩; have HB1 := Aside0.mk hb1; clear hb1)
  go_upto_region 5 with (go_at_call 10; refine (A_new n false a1 hn1 hn2 H1.out _).mono ?_; rintro e w2 ⟨rfl, hb2, hl2⟩; have HB2 := Aside0.mk (And.intro hb2 hl2); clear hb2 hl2)
  go_upto_region 6 with (go_at_call 10; refine (A_new n false a1 hn1 hn2 H1.out _).mono ?_; rintro e w3 ⟨rfl, hb3, hl3⟩; have HB3 := Aside0.mk (And.intro hb3 hl3); clear hb3 hl3)
  have HA : Aside0 (Aw2 W (w1.heap.size + 1) w1.heap.size (newA n.toNat false a1) (w2.heap.size + 1) w2.heap.size (newA n.toNat false a1) 0 [] w3) := by
    have h1 := HB1.out
    have h2 := HB2.out
    have h3 := HB3.out
    have hlt := h2.2.lt
    have hs1 := h1.size
    have hs2 := h2.1.size
    exact ⟨⟨h2.2.below h3.1, h3.2, (h1.trans (h2.1.mono hs1)).trans (h3.1.mono (Nat.le_trans hs1 hs2)), by omega, by omega, by simp⟩⟩
  have HOI : Aside0 (OI W (w1.heap.size + 1) w1.heap.size (w2.heap.size + 1) w2.heap.size 0 w3) := ⟨_, _, HA.out, ow_new _ _⟩
  clear HA HB1 HB2 HB3
  generalize w2.heap.size = m' at HOI ⊢
  generalize w1.heap.size = m at HOI ⊢
  generalize m' + 1 = b' at HOI ⊢
  generalize m + 1 = b at HOI ⊢
  go_wp2
  go_loopw [12] (fun i wr => ∃ j : Nat, j ≤ 60 ∧ i = .int .i64 (j : Int) ∧ Aside0 (OI W b m b' m' j wr)) (fun i _ => 60 - (intOf i).toNat)
  case atStart => exact ⟨0, by omega, rfl, HOI⟩
  case round =>
    clear HOI
    obtain ⟨j, hj60, rfl, HI⟩ := hrel
    obtain ⟨a, a', hA, hO⟩ := HI.out
    have HA := Aside0.mk hA
    have HO := Aside0.mk hO
    clear hA hO HI
    by_cases hgo : j < l2.length ∧ j < 60
    · have d1 : decide ((j : Int) < (l2.length : Int)) = true := decide_eq_true (by omega)
      have d1' : decide (j < l2.length) = true := decide_eq_true hgo.1
      have d2 : decide ((j : Int) < 60) = true := decide_eq_true (by omega)
      have d2' : decide (j < 60) = true := decide_eq_true hgo.2
      have HJ := Aside0.mk hgo
      have hx0 : (0 : Int) ≤ (j : Int) := by omega
      have hx1 : (j : Int) < (l2.length : Int) := by omega
      obtain ⟨ad, rfl, q0, q1, q2, q3, q4, q5, q6⟩ := at_T40 (Kd.C_below HR.out HA.out.be) (j : Int) hx0 hx1
      have HOK := Aside0.mk (H2.out _ (rd_mem hgo.1))
      obtain ⟨xx, hxx⟩ : ∃ xx, rd_T40 l2 (j : Int) = xx := ⟨_, rfl⟩
      rw [hxx, Int.toNat_natCast] at q0 q1 q2 q3 q4 q5 q6
      rw [hxx] at HOK
      have HQ : Aside0 (U64 xx.f1.f0) := ⟨wf_u64 HOK.out.2.1.1⟩
      have hw : wrap64 ((j : Int) + 1) = (j : Int) + 1 := by unfold wrap64; omega
      have HH : Aside0 (60 - ((j : Int) + 1).toNat < 60 - ((j : Int)).toNat) := ⟨by omega⟩
      have HK : Aside0 (2 * j < 1000 ∧ 2 * j + 1 < 1000) := ⟨by omega⟩
      clear hxx hgo
      go_upto_region 12 with fail
      have HA1 := Aside0.mk (HA.out.alloc (.cells (aO xx) 40))
      clear q0 q1 q2 q3 q4 q5 q6 HA hx0 hx1 d1 d1' d2 d2'
      generalize wr.alloc (.cells (aO xx) 40) = w4 at HA1 ⊢
      generalize wr.heap.size = g at HA1 ⊢
      have t0 : w4.cell? ⟨g, 0, none⟩ = some (.int .i64 xx.f0) := (HA1.out.ptr List.mem_cons_self 0).1
      have t1 : w4.cell? ⟨g, 1, none⟩ = some (.int .u64 xx.f1.f0) := (HA1.out.ptr List.mem_cons_self 1).1
      have t2 : w4.cell? ⟨g, 2, none⟩ = some (.int .u64 xx.f1.f1) := (HA1.out.ptr List.mem_cons_self 2).1
      by_cases hk1 : xx.f0 = 1
      · have k1 : (xx.f0 == 1) = true := by simp [hk1]
        clear hk1
        obtain ⟨tq, te, er, hcl⟩ := claimR_shape a
        have hcl' := (ow_claim HO.out).1.symm.trans hcl
        have HCL := Aside0.mk (And.intro hcl hcl')
        clear hcl hcl'
        go_upto_region 17 with (go_at_call 15; refine (A_claim HA1.out.l1).mono ?_; rewrite [HCL.out.1]; rintro e w5 ⟨rfl, hl5, hf5⟩; have HA2 := Aside0.mk ((HA1.out.call1 hl5 hf5).alloc (.cells (aTick tq te) 34)); clear hl5 hf5)
        clear t0 t1 t2
        generalize w5.alloc (.cells (aTick tq te) 34) = w6 at HA2 ⊢
        generalize w5.heap.size = g1 at HA2 ⊢
        go_upto_region 18 with (go_at_call 15; refine (A_claim HA2.out.l2).mono ?_; rewrite [HCL.out.2]; rintro e w7 ⟨rfl, hl7, hf7⟩; have HA3 := Aside0.mk ((HA2.out.call2 hl7 hf7).alloc (.cells (aTick tq te) 34)); clear hl7 hf7)
        generalize w7.alloc (.cells (aTick tq te) 34) = w8 at HA3 ⊢
        generalize w7.heap.size = g2 at HA3 ⊢
        have s0 : w8.cell? ⟨g1, 0, none⟩ = some (.int .u64 tq) := (HA3.out.ptr (g := g1) (C := aTick tq te) (t := 34) (by simp) 0).1
        have s1 : w8.cell? ⟨g1, 1, none⟩ = some (.int .u64 te) := (HA3.out.ptr (g := g1) (C := aTick tq te) (t := 34) (by simp) 1).1
        have s2 : w8.cell? ⟨g2, 0, none⟩ = some (.int .u64 tq) := (HA3.out.ptr (g := g2) (C := aTick tq te) (t := 34) (by simp) 0).1
        have s3 : w8.cell? ⟨g2, 1, none⟩ = some (.int .u64 te) := (HA3.out.ptr (g := g2) (C := aTick tq te) (t := 34) (by simp) 1).1
        go_wp2
        go_roundw
        case rel => exact ⟨j + 1, by have := HJ.out; omega, by go_num, ⟨_, _, (HA3.out.none.mono (Nat.le_of_eq (by omega))), (ow_claim HO.out).2⟩⟩
        case measure => first | exact HH.out | (simp only [hw]; exact HH.out)
      · skip
        by_cases hk2 : xx.f0 = 2
        · have k1 : (xx.f0 == 1) = false := by simp [hk1]
          have k2 : (xx.f0 == 2) = true := by simp [hk2]
          clear hk1 hk2
          obtain ⟨er, hcl⟩ : ∃ er, (layR a xx.f1.f0 xx.f1.f1 xx.f2.f0 xx.f2.f1).2 = er := ⟨_, rfl⟩
          have hcl' := ((ow_lay HO.out xx.f1.f0 xx.f1.f1 xx.f2.f0 xx.f2.f1).1).symm.trans hcl
          have HCL := Aside0.mk (And.intro hcl hcl')
          clear hcl hcl' t1 t2
          go_upto_region 21 with fail
          clear t0
          refine wp_region_held_drew (S := fun w' => w'.heap[g]? = some (.cells (aO xx) 40 (0, 0))) (by kernel_rfl) (HA1.out.obj (g, _) (by simp)).1 (fun hHeld => ?_)
          refine take_at (i := 0) (v := _) 101 rfl rfl (by kernel_rfl) (by kernel_rfl) (by kernel_rfl) (fun _ _ _ h => h) (Or.inl ⟨by rfl, fun w' hW => by have hq0 := (op_blk hW).2.1; have hq1 := (op_blk hW).2.2.1; have hq2 := (op_blk hW).2.2.2.1; have hq3 := (op_blk hW).2.2.2.2.1; have hq4 := (op_blk hW).2.2.2.2.2.1; have hq5 := (op_blk hW).2.2.2.2.2.2; first | (go_simp; done) | (go_simp; with_reducible rfl) | (go_simp; rfl)⟩) hHeld ?_
          try simp only [Act.put, List.setIfInBounds_toArray, List.set_cons_zero, List.set_cons_succ]
          refine take_at (i := 1) (v := _) 102 rfl rfl (by kernel_rfl) (by kernel_rfl) (by kernel_rfl) (fun _ _ _ h => h) (Or.inl ⟨by rfl, fun w' hW => by have hq0 := (op_blk hW).2.1; have hq1 := (op_blk hW).2.2.1; have hq2 := (op_blk hW).2.2.2.1; have hq3 := (op_blk hW).2.2.2.2.1; have hq4 := (op_blk hW).2.2.2.2.2.1; have hq5 := (op_blk hW).2.2.2.2.2.2; first | (go_simp; done) | (go_simp; with_reducible rfl) | (go_simp; rfl)⟩) hHeld ?_
          try simp only [Act.put, List.setIfInBounds_toArray, List.set_cons_zero, List.set_cons_succ]
          refine take_at (i := 2) (v := _) 103 rfl rfl (by kernel_rfl) (by kernel_rfl) (by kernel_rfl) (fun _ _ _ h => h) (Or.inl ⟨by rfl, fun w' hW => by have hq0 := (op_blk hW).2.1; have hq1 := (op_blk hW).2.2.1; have hq2 := (op_blk hW).2.2.2.1; have hq3 := (op_blk hW).2.2.2.2.1; have hq4 := (op_blk hW).2.2.2.2.2.1; have hq5 := (op_blk hW).2.2.2.2.2.2; first | (go_simp; done) | (go_simp; with_reducible rfl) | (go_simp; rfl)⟩) hHeld ?_
          try simp only [Act.put, List.setIfInBounds_toArray, List.set_cons_zero, List.set_cons_succ]
          refine take_at (i := 3) (v := _) 104 rfl rfl (by kernel_rfl) (by kernel_rfl) (by kernel_rfl) (fun _ _ _ h => h) (Or.inl ⟨by rfl, fun w' hW => by have hq0 := (op_blk hW).2.1; have hq1 := (op_blk hW).2.2.1; have hq2 := (op_blk hW).2.2.2.1; have hq3 := (op_blk hW).2.2.2.2.1; have hq4 := (op_blk hW).2.2.2.2.2.1; have hq5 := (op_blk hW).2.2.2.2.2.2; first | (go_simp; done) | (go_simp; with_reducible rfl) | (go_simp; rfl)⟩) hHeld ?_
          try simp only [Act.put, List.setIfInBounds_toArray, List.set_cons_zero, List.set_cons_succ]
          refine take_at (i := 4) (v := _) 105 rfl rfl (by kernel_rfl) (by kernel_rfl) (by kernel_rfl) (fun _ _ _ h => h) (Or.inl ⟨by rfl, fun w' hW => by have hq0 := (op_blk hW).2.1; have hq1 := (op_blk hW).2.2.1; have hq2 := (op_blk hW).2.2.2.1; have hq3 := (op_blk hW).2.2.2.2.1; have hq4 := (op_blk hW).2.2.2.2.2.1; have hq5 := (op_blk hW).2.2.2.2.2.2; first | (go_simp; done) | (go_simp; with_reducible rfl) | (go_simp; rfl)⟩) hHeld ?_
          try simp only [Act.put, List.setIfInBounds_toArray, List.set_cons_zero, List.set_cons_succ]
          refine take_at (i := 6) (v := _) 107 rfl rfl (by kernel_rfl) (by kernel_rfl) (by kernel_rfl) (fun _ _ _ h => h) (Or.inl ⟨by rfl, fun w' hW => by have hq0 := (op_blk hW).2.1; have hq1 := (op_blk hW).2.2.1; have hq2 := (op_blk hW).2.2.2.1; have hq3 := (op_blk hW).2.2.2.2.1; have hq4 := (op_blk hW).2.2.2.2.2.1; have hq5 := (op_blk hW).2.2.2.2.2.2; first | (go_simp; done) | (go_simp; with_reducible rfl) | (go_simp; rfl)⟩) hHeld ?_
          try simp only [Act.put, List.setIfInBounds_toArray, List.set_cons_zero, List.set_cons_succ]
          refine take_at (i := 7) (v := _) 108 rfl rfl (by kernel_rfl) (by kernel_rfl) (by kernel_rfl) (fun _ _ _ h => h) (Or.inl ⟨by rfl, fun w' hW => by have hq0 := (op_blk hW).2.1; have hq1 := (op_blk hW).2.2.1; have hq2 := (op_blk hW).2.2.2.1; have hq3 := (op_blk hW).2.2.2.2.1; have hq4 := (op_blk hW).2.2.2.2.2.1; have hq5 := (op_blk hW).2.2.2.2.2.2; first | (go_simp; done) | (go_simp; with_reducible rfl) | (go_simp; rfl)⟩) hHeld ?_
          try simp only [Act.put, List.setIfInBounds_toArray, List.set_cons_zero, List.set_cons_succ]
          refine take_at (i := 8) (v := _) 109 rfl rfl (by kernel_rfl) (by kernel_rfl) (by kernel_rfl) (fun _ _ _ h => h) (Or.inl ⟨by rfl, fun w' hW => by have hq0 := (op_blk hW).2.1; have hq1 := (op_blk hW).2.2.1; have hq2 := (op_blk hW).2.2.2.1; have hq3 := (op_blk hW).2.2.2.2.1; have hq4 := (op_blk hW).2.2.2.2.2.1; have hq5 := (op_blk hW).2.2.2.2.2.2; first | (go_simp; done) | (go_simp; with_reducible rfl) | (go_simp; rfl)⟩) hHeld ?_
          try simp only [Act.put, List.setIfInBounds_toArray, List.set_cons_zero, List.set_cons_succ]
          refine take_at (i := 9) (v := _) 110 rfl rfl (by kernel_rfl) (by kernel_rfl) (by kernel_rfl) (fun _ _ _ h => h) (Or.inl ⟨by rfl, fun w' hW => by have hq0 := (op_blk hW).2.1; have hq1 := (op_blk hW).2.2.1; have hq2 := (op_blk hW).2.2.2.1; have hq3 := (op_blk hW).2.2.2.2.1; have hq4 := (op_blk hW).2.2.2.2.2.1; have hq5 := (op_blk hW).2.2.2.2.2.2; first | (go_simp; done) | (go_simp; with_reducible rfl) | (go_simp; rfl)⟩) hHeld ?_
          try simp only [Act.put, List.setIfInBounds_toArray, List.set_cons_zero, List.set_cons_succ]
          refine take_at (i := 10) (v := _) 111 rfl rfl (by kernel_rfl) (by kernel_rfl) (by kernel_rfl) (fun _ _ _ h => h) (Or.inl ⟨by rfl, fun w' hW => by have hq0 := (op_blk hW).2.1; have hq1 := (op_blk hW).2.2.1; have hq2 := (op_blk hW).2.2.2.1; have hq3 := (op_blk hW).2.2.2.2.1; have hq4 := (op_blk hW).2.2.2.2.2.1; have hq5 := (op_blk hW).2.2.2.2.2.2; first | (go_simp; done) | (go_simp; with_reducible rfl) | (go_simp; rfl)⟩) hHeld ?_
          try simp only [Act.put, List.setIfInBounds_toArray, List.set_cons_zero, List.set_cons_succ]
          have Hp20 := Aside0.mk (HA1.out.below (Below.refl _ _).drew)
          clear hHeld
          generalize w4.drew = wdp2 at Hp20 ⊢
          refine wpAnyH_ready (rs := [5]) (by kernel_rfl) (by simp) ?_
          refine AllReadyH.cons rfl (fun K hK => ?_) AllReadyH.nil
          go_simp
          go_wp2_with (first | (go_at_call 16; refine (A_lay Hp20.out.l1 (by have := HK.out; omega) xx.f1.f0 xx.f1.f1 xx.f2.f0 xx.f2.f1 HQ.out).mono ?_; rewrite [HCL.out.1]; rintro e wp21 ⟨rfl, hl5, hf5⟩; have Hp21 := Aside0.mk (Hp20.out.call1 hl5 hf5); clear hl5 hf5))
          refine hK.out _ _ (Hp21.out.obj (g, _) (by simp)).1 (fun hHeld => ?_)
          clear hK K
          try simp only [Act.put, List.setIfInBounds_toArray, List.set_cons_zero, List.set_cons_succ]
          refine wpAnyH_ready (rs := [11]) (by kernel_rfl) (by simp) ?_
          refine AllReadyH.cons rfl (fun K hK => ?_) AllReadyH.nil
          go_simp
          go_wp2_with (first | (go_at_call 16; refine (A_lay Hp21.out.l2 (by have := HK.out; omega) xx.f1.f0 xx.f1.f1 xx.f2.f0 xx.f2.f1 HQ.out).mono ?_; rewrite [HCL.out.2]; rintro e wp22 ⟨rfl, hl5, hf5⟩; have Hp22 := Aside0.mk (Hp21.out.call2 hl5 hf5); clear hl5 hf5))
          refine hK.out _ _ (Hp22.out.obj (g, _) (by simp)).1 (fun hHeld => ?_)
          clear hK K
          try simp only [Act.put, List.setIfInBounds_toArray, List.set_cons_zero, List.set_cons_succ]
          refine take_at (i := 12) (v := _) 113 rfl rfl (by kernel_rfl) (by kernel_rfl) (by kernel_rfl) (fun _ _ _ h => h) (Or.inl ⟨by rfl, fun w' hW => by have hq0 := (op_blk hW).2.1; have hq1 := (op_blk hW).2.2.1; have hq2 := (op_blk hW).2.2.2.1; have hq3 := (op_blk hW).2.2.2.2.1; have hq4 := (op_blk hW).2.2.2.2.2.1; have hq5 := (op_blk hW).2.2.2.2.2.2; first | (go_simp; done) | (go_simp; with_reducible rfl) | (go_simp; rfl)⟩) hHeld ?_
          try simp only [Act.put, List.setIfInBounds_toArray, List.set_cons_zero, List.set_cons_succ]
          refine wpAnyH_done (by kernel_rfl) ?_ _
          clear hHeld
          go_wp2
          go_roundw
          case rel => exact ⟨j + 1, by have := HJ.out; omega, by go_num, ⟨_, _, (Hp22.out.none.mono (Nat.le_of_eq (by omega))), (ow_lay HO.out xx.f1.f0 xx.f1.f1 xx.f2.f0 xx.f2.f1).2⟩⟩
          case measure => first | exact HH.out | (simp only [hw]; exact HH.out)
        · skip
          by_cases hk4 : xx.f0 = 4
          · have k1 : (xx.f0 == 1) = false := by simp [hk1]
            have k2 : (xx.f0 == 2) = false := by simp [hk2]
            have k4 : (xx.f0 == 4) = true := by simp [hk4]
            clear hk1 hk2 hk4
            obtain ⟨er, hcl⟩ : ∃ er, (pubR a xx.f1.f0 xx.f1.f1 xx.f3.f0 xx.f3.f1).2 = er := ⟨_, rfl⟩
            have hcl' := ((ow_pub HO.out xx.f1.f0 xx.f1.f1 xx.f3.f0 xx.f3.f1).1).symm.trans hcl
            have HCL := Aside0.mk (And.intro hcl hcl')
            clear hcl hcl' t1 t2
            go_upto_region 24 with fail
            clear t0
            refine wp_region_held_drew (S := fun w' => w'.heap[g]? = some (.cells (aO xx) 40 (0, 0))) (by kernel_rfl) (HA1.out.obj (g, _) (by simp)).1 (fun hHeld => ?_)
            refine take_at (i := 0) (v := _) 116 rfl rfl (by kernel_rfl) (by kernel_rfl) (by kernel_rfl) (fun _ _ _ h => h) (Or.inl ⟨by rfl, fun w' hW => by have hq0 := (op_blk hW).2.1; have hq1 := (op_blk hW).2.2.1; have hq2 := (op_blk hW).2.2.2.1; have hq3 := (op_blk hW).2.2.2.2.1; have hq4 := (op_blk hW).2.2.2.2.2.1; have hq5 := (op_blk hW).2.2.2.2.2.2; first | (go_simp; done) | (go_simp; with_reducible rfl) | (go_simp; rfl)⟩) hHeld ?_
            try simp only [Act.put, List.setIfInBounds_toArray, List.set_cons_zero, List.set_cons_succ]
            refine take_at (i := 1) (v := _) 117 rfl rfl (by kernel_rfl) (by kernel_rfl) (by kernel_rfl) (fun _ _ _ h => h) (Or.inl ⟨by rfl, fun w' hW => by have hq0 := (op_blk hW).2.1; have hq1 := (op_blk hW).2.2.1; have hq2 := (op_blk hW).2.2.2.1; have hq3 := (op_blk hW).2.2.2.2.1; have hq4 := (op_blk hW).2.2.2.2.2.1; have hq5 := (op_blk hW).2.2.2.2.2.2; first | (go_simp; done) | (go_simp; with_reducible rfl) | (go_simp; rfl)⟩) hHeld ?_
            try simp only [Act.put, List.setIfInBounds_toArray, List.set_cons_zero, List.set_cons_succ]
            refine take_at (i := 2) (v := _) 118 rfl rfl (by kernel_rfl) (by kernel_rfl) (by kernel_rfl) (fun _ _ _ h => h) (Or.inl ⟨by rfl, fun w' hW => by have hq0 := (op_blk hW).2.1; have hq1 := (op_blk hW).2.2.1; have hq2 := (op_blk hW).2.2.2.1; have hq3 := (op_blk hW).2.2.2.2.1; have hq4 := (op_blk hW).2.2.2.2.2.1; have hq5 := (op_blk hW).2.2.2.2.2.2; first | (go_simp; done) | (go_simp; with_reducible rfl) | (go_simp; rfl)⟩) hHeld ?_
            try simp only [Act.put, List.setIfInBounds_toArray, List.set_cons_zero, List.set_cons_succ]
            refine take_at (i := 3) (v := _) 119 rfl rfl (by kernel_rfl) (by kernel_rfl) (by kernel_rfl) (fun _ _ _ h => h) (Or.inl ⟨by rfl, fun w' hW => by have hq0 := (op_blk hW).2.1; have hq1 := (op_blk hW).2.2.1; have hq2 := (op_blk hW).2.2.2.1; have hq3 := (op_blk hW).2.2.2.2.1; have hq4 := (op_blk hW).2.2.2.2.2.1; have hq5 := (op_blk hW).2.2.2.2.2.2; first | (go_simp; done) | (go_simp; with_reducible rfl) | (go_simp; rfl)⟩) hHeld ?_
            try simp only [Act.put, List.setIfInBounds_toArray, List.set_cons_zero, List.set_cons_succ]
            refine take_at (i := 4) (v := _) 120 rfl rfl (by kernel_rfl) (by kernel_rfl) (by kernel_rfl) (fun _ _ _ h => h) (Or.inl ⟨by rfl, fun w' hW => by have hq0 := (op_blk hW).2.1; have hq1 := (op_blk hW).2.2.1; have hq2 := (op_blk hW).2.2.2.1; have hq3 := (op_blk hW).2.2.2.2.1; have hq4 := (op_blk hW).2.2.2.2.2.1; have hq5 := (op_blk hW).2.2.2.2.2.2; first | (go_simp; done) | (go_simp; with_reducible rfl) | (go_simp; rfl)⟩) hHeld ?_
            try simp only [Act.put, List.setIfInBounds_toArray, List.set_cons_zero, List.set_cons_succ]
            refine take_at (i := 6) (v := _) 122 rfl rfl (by kernel_rfl) (by kernel_rfl) (by kernel_rfl) (fun _ _ _ h => h) (Or.inl ⟨by rfl, fun w' hW => by have hq0 := (op_blk hW).2.1; have hq1 := (op_blk hW).2.2.1; have hq2 := (op_blk hW).2.2.2.1; have hq3 := (op_blk hW).2.2.2.2.1; have hq4 := (op_blk hW).2.2.2.2.2.1; have hq5 := (op_blk hW).2.2.2.2.2.2; first | (go_simp; done) | (go_simp; with_reducible rfl) | (go_simp; rfl)⟩) hHeld ?_
            try simp only [Act.put, List.setIfInBounds_toArray, List.set_cons_zero, List.set_cons_succ]
            refine take_at (i := 7) (v := _) 123 rfl rfl (by kernel_rfl) (by kernel_rfl) (by kernel_rfl) (fun _ _ _ h => h) (Or.inl ⟨by rfl, fun w' hW => by have hq0 := (op_blk hW).2.1; have hq1 := (op_blk hW).2.2.1; have hq2 := (op_blk hW).2.2.2.1; have hq3 := (op_blk hW).2.2.2.2.1; have hq4 := (op_blk hW).2.2.2.2.2.1; have hq5 := (op_blk hW).2.2.2.2.2.2; first | (go_simp; done) | (go_simp; with_reducible rfl) | (go_simp; rfl)⟩) hHeld ?_
            try simp only [Act.put, List.setIfInBounds_toArray, List.set_cons_zero, List.set_cons_succ]
            refine take_at (i := 8) (v := _) 124 rfl rfl (by kernel_rfl) (by kernel_rfl) (by kernel_rfl) (fun _ _ _ h => h) (Or.inl ⟨by rfl, fun w' hW => by have hq0 := (op_blk hW).2.1; have hq1 := (op_blk hW).2.2.1; have hq2 := (op_blk hW).2.2.2.1; have hq3 := (op_blk hW).2.2.2.2.1; have hq4 := (op_blk hW).2.2.2.2.2.1; have hq5 := (op_blk hW).2.2.2.2.2.2; first | (go_simp; done) | (go_simp; with_reducible rfl) | (go_simp; rfl)⟩) hHeld ?_
            try simp only [Act.put, List.setIfInBounds_toArray, List.set_cons_zero, List.set_cons_succ]
            refine take_at (i := 9) (v := _) 125 rfl rfl (by kernel_rfl) (by kernel_rfl) (by kernel_rfl) (fun _ _ _ h => h) (Or.inl ⟨by rfl, fun w' hW => by have hq0 := (op_blk hW).2.1; have hq1 := (op_blk hW).2.2.1; have hq2 := (op_blk hW).2.2.2.1; have hq3 := (op_blk hW).2.2.2.2.1; have hq4 := (op_blk hW).2.2.2.2.2.1; have hq5 := (op_blk hW).2.2.2.2.2.2; first | (go_simp; done) | (go_simp; with_reducible rfl) | (go_simp; rfl)⟩) hHeld ?_
            try simp only [Act.put, List.setIfInBounds_toArray, List.set_cons_zero, List.set_cons_succ]
            refine take_at (i := 10) (v := _) 126 rfl rfl (by kernel_rfl) (by kernel_rfl) (by kernel_rfl) (fun _ _ _ h => h) (Or.inl ⟨by rfl, fun w' hW => by have hq0 := (op_blk hW).2.1; have hq1 := (op_blk hW).2.2.1; have hq2 := (op_blk hW).2.2.2.1; have hq3 := (op_blk hW).2.2.2.2.1; have hq4 := (op_blk hW).2.2.2.2.2.1; have hq5 := (op_blk hW).2.2.2.2.2.2; first | (go_simp; done) | (go_simp; with_reducible rfl) | (go_simp; rfl)⟩) hHeld ?_
            try simp only [Act.put, List.setIfInBounds_toArray, List.set_cons_zero, List.set_cons_succ]
            have Hp40 := Aside0.mk (HA1.out.below (Below.refl _ _).drew)
            clear hHeld
            generalize w4.drew = wdp4 at Hp40 ⊢
            refine wpAnyH_ready (rs := [5]) (by kernel_rfl) (by simp) ?_
            refine AllReadyH.cons rfl (fun K hK => ?_) AllReadyH.nil
            go_simp
            go_wp2_with (first | (go_at_call 20; refine (A_pub Hp40.out.l1 (by have := HK.out; omega) xx.f1.f0 xx.f1.f1 xx.f3.f0 xx.f3.f1 HQ.out).mono ?_; rewrite [HCL.out.1]; rintro e wp41 ⟨rfl, hl5, hf5⟩; have Hp41 := Aside0.mk (Hp40.out.call1 hl5 hf5); clear hl5 hf5))
            refine hK.out _ _ (Hp41.out.obj (g, _) (by simp)).1 (fun hHeld => ?_)
            clear hK K
            try simp only [Act.put, List.setIfInBounds_toArray, List.set_cons_zero, List.set_cons_succ]
            refine wpAnyH_ready (rs := [11]) (by kernel_rfl) (by simp) ?_
            refine AllReadyH.cons rfl (fun K hK => ?_) AllReadyH.nil
            go_simp
            go_wp2_with (first | (go_at_call 20; refine (A_pub Hp41.out.l2 (by have := HK.out; omega) xx.f1.f0 xx.f1.f1 xx.f3.f0 xx.f3.f1 HQ.out).mono ?_; rewrite [HCL.out.2]; rintro e wp42 ⟨rfl, hl5, hf5⟩; have Hp42 := Aside0.mk (Hp41.out.call2 hl5 hf5); clear hl5 hf5))
            refine hK.out _ _ (Hp42.out.obj (g, _) (by simp)).1 (fun hHeld => ?_)
            clear hK K
            try simp only [Act.put, List.setIfInBounds_toArray, List.set_cons_zero, List.set_cons_succ]
            refine take_at (i := 12) (v := _) 128 rfl rfl (by kernel_rfl) (by kernel_rfl) (by kernel_rfl) (fun _ _ _ h => h) (Or.inl ⟨by rfl, fun w' hW => by have hq0 := (op_blk hW).2.1; have hq1 := (op_blk hW).2.2.1; have hq2 := (op_blk hW).2.2.2.1; have hq3 := (op_blk hW).2.2.2.2.1; have hq4 := (op_blk hW).2.2.2.2.2.1; have hq5 := (op_blk hW).2.2.2.2.2.2; first | (go_simp; done) | (go_simp; with_reducible rfl) | (go_simp; rfl)⟩) hHeld ?_
            try simp only [Act.put, List.setIfInBounds_toArray, List.set_cons_zero, List.set_cons_succ]
            refine wpAnyH_done (by kernel_rfl) ?_ _
            clear hHeld
            go_wp2
            go_roundw
            case rel => exact ⟨j + 1, by have := HJ.out; omega, by go_num, ⟨_, _, (Hp42.out.none.mono (Nat.le_of_eq (by omega))), (ow_pub HO.out xx.f1.f0 xx.f1.f1 xx.f3.f0 xx.f3.f1).2⟩⟩
            case measure => first | exact HH.out | (simp only [hw]; exact HH.out)
          · skip
            by_cases hk6 : xx.f0 = 6
            · have k1 : (xx.f0 == 1) = false := by simp [hk1]
              have k2 : (xx.f0 == 2) = false := by simp [hk2]
              have k4 : (xx.f0 == 4) = false := by simp [hk4]
              have k6 : (xx.f0 == 6) = true := by simp [hk6]
              clear hk1 hk2 hk4 hk6
              obtain ⟨rn, rg, rq, rp, er, hcl⟩ := takeR_shape a
              have HCL := Aside0.mk hcl
              clear hcl
              go_wp2_with (go_at_call 17; refine (A_take HA1.out.l1 (by have := HK.out; omega)).mono ?_; rewrite [HCL.out]; rintro e w5 ⟨rfl, hl5, hf5⟩; have HA2 := Aside0.mk (HA1.out.call1 hl5 hf5); clear hl5 hf5)
              go_roundw
              case rel => exact ⟨j + 1, by have := HJ.out; omega, by go_num, ⟨_, _, (HA2.out.none.mono (by omega)), (ow_take HO.out)⟩⟩
              case measure => first | exact HH.out | (simp only [hw]; exact HH.out)
            · skip
              by_cases hk7 : xx.f0 = 7
              · have k1 : (xx.f0 == 1) = false := by simp [hk1]
                have k2 : (xx.f0 == 2) = false := by simp [hk2]
                have k4 : (xx.f0 == 4) = false := by simp [hk4]
                have k6 : (xx.f0 == 6) = false := by simp [hk6]
                have k7 : (xx.f0 == 7) = true := by simp [hk7]
                clear hk1 hk2 hk4 hk6 hk7
                obtain ⟨rn, rg, rb, er, hcl⟩ := retR_shape a xx.f1.f0 xx.f1.f1
                have HCL := Aside0.mk hcl
                clear hcl
                go_wp2_with (go_at_call 19; refine (A_ret HA1.out.l1 (by have := HK.out; omega) xx.f1.f0 xx.f1.f1 HQ.out).mono ?_; rewrite [HCL.out]; rintro e w5 ⟨rfl, hl5, hf5⟩; have HA2 := Aside0.mk (HA1.out.call1 hl5 hf5); clear hl5 hf5)
                go_roundw
                case rel => exact ⟨j + 1, by have := HJ.out; omega, by go_num, ⟨_, _, (HA2.out.none.mono (by omega)), (ow_ret HO.out _ _)⟩⟩
                case measure => first | exact HH.out | (simp only [hw]; exact HH.out)
              · skip
                by_cases hk8 : xx.f0 = 8
                · have k1 : (xx.f0 == 1) = false := by simp [hk1]
                  have k2 : (xx.f0 == 2) = false := by simp [hk2]
                  have k4 : (xx.f0 == 4) = false := by simp [hk4]
                  have k6 : (xx.f0 == 6) = false := by simp [hk6]
                  have k7 : (xx.f0 == 7) = false := by simp [hk7]
                  have k8 : (xx.f0 == 8) = true := by simp [hk8]
                  clear hk1 hk2 hk4 hk6 hk7 hk8
                  obtain ⟨er, hcl⟩ : ∃ er, (resetR a).2 = er := ⟨_, rfl⟩
                  have hcl' := (ow_reset HO.out).1.symm.trans hcl
                  have HCL := Aside0.mk (And.intro hcl hcl')
                  clear hcl hcl' t1 t2
                  go_upto_region 32 with (go_at_call 18; refine (A_reset HA1.out.l1 (by have := HK.out; omega)).mono ?_; rewrite [HCL.out.1]; rintro e w5 ⟨rA, rc, rfl, _, _, _, hl5, hf5⟩; have HA2 := Aside0.mk (HA1.out.call1 hl5 hf5); clear hl5 hf5)
                  clear t0
                  go_wp2_with (go_at_call 18; refine (A_reset HA2.out.l2 (by have := HK.out; omega)).mono ?_; rewrite [HCL.out.2]; rintro e w6 ⟨rA2, rc2, rfl, _, _, _, hl6, hf6⟩; have HA3 := Aside0.mk (HA2.out.call2 hl6 hf6); clear hl6 hf6)
                  go_roundw
                  case rel => exact ⟨j + 1, by have := HJ.out; omega, by go_num, ⟨_, _, (HA3.out.none.mono (Nat.le_of_eq (by omega))), (ow_reset HO.out).2⟩⟩
                  case measure => first | exact HH.out | (simp only [hw]; exact HH.out)
                · skip
                  have k1 : (xx.f0 == 1) = false := by simp [hk1]
                  have k2 : (xx.f0 == 2) = false := by simp [hk2]
                  have k4 : (xx.f0 == 4) = false := by simp [hk4]
                  have k6 : (xx.f0 == 6) = false := by simp [hk6]
                  have k7 : (xx.f0 == 7) = false := by simp [hk7]
                  have k8 : (xx.f0 == 8) = false := by simp [hk8]
                  clear hk1 hk2 hk4 hk6 hk7 hk8
                  obtain ⟨er, hcl⟩ : ∃ er, readyR a xx.f1.f0 xx.f1.f1 = er := ⟨_, rfl⟩
                  have hcl' := (ow_ready HO.out xx.f1.f0 xx.f1.f1).symm.trans hcl
                  have HCL := Aside0.mk (And.intro hcl hcl')
                  clear hcl hcl' t1 t2
                  go_upto_region 13 with fail
                  clear t0
                  refine wp_region_held_drew (S := fun w' => w'.heap[g]? = some (.cells (aO xx) 40 (0, 0))) (by kernel_rfl) (HA1.out.obj (g, _) (by simp)).1 (fun hHeld => ?_)
                  refine take_at (i := 0) (v := _) 70 rfl rfl (by kernel_rfl) (by kernel_rfl) (by kernel_rfl) (fun _ _ _ h => h) (Or.inl ⟨by rfl, fun w' hW => by have hq0 := (op_blk hW).2.1; have hq1 := (op_blk hW).2.2.1; have hq2 := (op_blk hW).2.2.2.1; have hq3 := (op_blk hW).2.2.2.2.1; have hq4 := (op_blk hW).2.2.2.2.2.1; have hq5 := (op_blk hW).2.2.2.2.2.2; first | (go_simp; done) | (go_simp; with_reducible rfl) | (go_simp; rfl)⟩) hHeld ?_
                  try simp only [Act.put, List.setIfInBounds_toArray, List.set_cons_zero, List.set_cons_succ]
                  refine take_at (i := 1) (v := _) 71 rfl rfl (by kernel_rfl) (by kernel_rfl) (by kernel_rfl) (fun _ _ _ h => h) (Or.inl ⟨by rfl, fun w' hW => by have hq0 := (op_blk hW).2.1; have hq1 := (op_blk hW).2.2.1; have hq2 := (op_blk hW).2.2.2.1; have hq3 := (op_blk hW).2.2.2.2.1; have hq4 := (op_blk hW).2.2.2.2.2.1; have hq5 := (op_blk hW).2.2.2.2.2.2; first | (go_simp; done) | (go_simp; with_reducible rfl) | (go_simp; rfl)⟩) hHeld ?_
                  try simp only [Act.put, List.setIfInBounds_toArray, List.set_cons_zero, List.set_cons_succ]
                  refine take_at (i := 2) (v := _) 72 rfl rfl (by kernel_rfl) (by kernel_rfl) (by kernel_rfl) (fun _ _ _ h => h) (Or.inl ⟨by rfl, fun w' hW => by have hq0 := (op_blk hW).2.1; have hq1 := (op_blk hW).2.2.1; have hq2 := (op_blk hW).2.2.2.1; have hq3 := (op_blk hW).2.2.2.2.1; have hq4 := (op_blk hW).2.2.2.2.2.1; have hq5 := (op_blk hW).2.2.2.2.2.2; first | (go_simp; done) | (go_simp; with_reducible rfl) | (go_simp; rfl)⟩) hHeld ?_
                  try simp only [Act.put, List.setIfInBounds_toArray, List.set_cons_zero, List.set_cons_succ]
                  refine take_at (i := 4) (v := _) 74 rfl rfl (by kernel_rfl) (by kernel_rfl) (by kernel_rfl) (fun _ _ _ h => h) (Or.inl ⟨by rfl, fun w' hW => by have hq0 := (op_blk hW).2.1; have hq1 := (op_blk hW).2.2.1; have hq2 := (op_blk hW).2.2.2.1; have hq3 := (op_blk hW).2.2.2.2.1; have hq4 := (op_blk hW).2.2.2.2.2.1; have hq5 := (op_blk hW).2.2.2.2.2.2; first | (go_simp; done) | (go_simp; with_reducible rfl) | (go_simp; rfl)⟩) hHeld ?_
                  try simp only [Act.put, List.setIfInBounds_toArray, List.set_cons_zero, List.set_cons_succ]
                  refine take_at (i := 5) (v := _) 75 rfl rfl (by kernel_rfl) (by kernel_rfl) (by kernel_rfl) (fun _ _ _ h => h) (Or.inl ⟨by rfl, fun w' hW => by have hq0 := (op_blk hW).2.1; have hq1 := (op_blk hW).2.2.1; have hq2 := (op_blk hW).2.2.2.1; have hq3 := (op_blk hW).2.2.2.2.1; have hq4 := (op_blk hW).2.2.2.2.2.1; have hq5 := (op_blk hW).2.2.2.2.2.2; first | (go_simp; done) | (go_simp; with_reducible rfl) | (go_simp; rfl)⟩) hHeld ?_
                  try simp only [Act.put, List.setIfInBounds_toArray, List.set_cons_zero, List.set_cons_succ]
                  refine take_at (i := 6) (v := _) 76 rfl rfl (by kernel_rfl) (by kernel_rfl) (by kernel_rfl) (fun _ _ _ h => h) (Or.inl ⟨by rfl, fun w' hW => by have hq0 := (op_blk hW).2.1; have hq1 := (op_blk hW).2.2.1; have hq2 := (op_blk hW).2.2.2.1; have hq3 := (op_blk hW).2.2.2.2.1; have hq4 := (op_blk hW).2.2.2.2.2.1; have hq5 := (op_blk hW).2.2.2.2.2.2; first | (go_simp; done) | (go_simp; with_reducible rfl) | (go_simp; rfl)⟩) hHeld ?_
                  try simp only [Act.put, List.setIfInBounds_toArray, List.set_cons_zero, List.set_cons_succ]
                  have Hpd0 := Aside0.mk (HA1.out.below (Below.refl _ _).drew)
                  clear hHeld
                  generalize w4.drew = wdpd at Hpd0 ⊢
                  refine wpAnyH_ready (rs := [3]) (by kernel_rfl) (by simp) ?_
                  refine AllReadyH.cons rfl (fun K hK => ?_) AllReadyH.nil
                  go_simp
                  go_wp2_with (first | (go_at_call 21; refine (A_ready Hpd0.out.l1 (by have := HK.out; omega) xx.f1.f0 xx.f1.f1 HQ.out).mono ?_; rewrite [HCL.out.1]; rintro e wpd1 ⟨rfl, hl5⟩; have Hpd1 := Aside0.mk (Hpd0.out.below hl5); clear hl5))
                  refine hK.out _ _ (Hpd1.out.obj (g, _) (by simp)).1 (fun hHeld => ?_)
                  clear hK K
                  try simp only [Act.put, List.setIfInBounds_toArray, List.set_cons_zero, List.set_cons_succ]
                  refine wpAnyH_ready (rs := [7]) (by kernel_rfl) (by simp) ?_
                  refine AllReadyH.cons rfl (fun K hK => ?_) AllReadyH.nil
                  go_simp
                  go_wp2_with (first | (go_at_call 21; refine (A_ready Hpd1.out.l2 (by have := HK.out; omega) xx.f1.f0 xx.f1.f1 HQ.out).mono ?_; rewrite [HCL.out.2]; rintro e wpd2 ⟨rfl, hl5⟩; have Hpd2 := Aside0.mk (Hpd1.out.below hl5); clear hl5))
                  refine hK.out _ _ (Hpd2.out.obj (g, _) (by simp)).1 (fun hHeld => ?_)
                  clear hK K
                  try simp only [Act.put, List.setIfInBounds_toArray, List.set_cons_zero, List.set_cons_succ]
                  refine take_at (i := 8) (v := _) 78 rfl rfl (by kernel_rfl) (by kernel_rfl) (by kernel_rfl) (fun _ _ _ h => h) (Or.inl ⟨by rfl, fun w' hW => by have hq0 := (op_blk hW).2.1; have hq1 := (op_blk hW).2.2.1; have hq2 := (op_blk hW).2.2.2.1; have hq3 := (op_blk hW).2.2.2.2.1; have hq4 := (op_blk hW).2.2.2.2.2.1; have hq5 := (op_blk hW).2.2.2.2.2.2; first | (go_simp; done) | (go_simp; with_reducible rfl) | (go_simp; rfl)⟩) hHeld ?_
                  try simp only [Act.put, List.setIfInBounds_toArray, List.set_cons_zero, List.set_cons_succ]
                  refine wpAnyH_done (by kernel_rfl) ?_ _
                  clear hHeld
                  go_wp2
                  go_roundw
                  case rel => exact ⟨j + 1, by have := HJ.out; omega, by go_num, ⟨_, _, (Hpd2.out.none.mono (by omega)), HO.out⟩⟩
                  case measure => first | exact HH.out | (simp only [hw]; exact HH.out)
    · have hend : (decide (j < l2.length) && decide (j < 60)) = false := by simp; omega
      have d3 : ¬ ((j : Int) < (l2.length : Int) ∧ (j : Int) < 60) := by omega
      by_cases hl : j < l2.length
      · have d1 : decide ((j : Int) < (l2.length : Int)) = true := decide_eq_true (by omega)
        have d1' : decide (j < l2.length) = true := decide_eq_true hl
        have d2 : decide ((j : Int) < 60) = false := decide_eq_false (by omega)
        have d2' : decide (j < 60) = false := decide_eq_false (by omega)
        clear hend d3 hgo hl
        have HK : Aside0 (2 * j < 1000) := ⟨by omega⟩
        have hst : stateR a = aSt ((a.credit : Int) - (a.total : Int)) a.C.length a.P.length (heldN a false) (heldN a true) a.epoch := rfl
        have hst' : stateR a' = aSt ((a.credit : Int) - (a.total : Int)) a'.C.length a'.P.length (heldN a' false) (heldN a' true) a'.epoch := by unfold stateR; rw [HO.out.cr, HO.out.tot]
        have HST := Aside0.mk hst
        have HST' := Aside0.mk hst'
        clear hst hst'
        have hfd := fun w => field42 ((a.credit : Int) - (a.total : Int)) a.C.length a.P.length (heldN a false) (heldN a true) a.epoch w
        have hfd' := fun w => field42 ((a.credit : Int) - (a.total : Int)) a'.C.length a'.P.length (heldN a' false) (heldN a' true) a'.epoch w
        go_wp2_with (first | (go_at_call 13; refine (A_state HA.out.l1 (by have := HK.out; omega)).mono ?_; rewrite [HST.out]; rintro e w5 ⟨rfl, hb5⟩; have HA5 := Aside0.mk (HA.out.below hb5); clear hb5 HA) | (go_at_call 13; refine (A_state HA5.out.l2 (by have := HK.out; omega)).mono ?_; rewrite [HST'.out]; rintro e w6 ⟨rfl, hb6⟩; have HA6 := Aside0.mk (HA5.out.below hb6); clear hb6))
        go_ret
        exact ⟨rfl, HA6.out.be⟩
      · have d1 : decide ((j : Int) < (l2.length : Int)) = false := decide_eq_false (by omega)
        have d1' : decide (j < l2.length) = false := decide_eq_false hl
        clear hend d3 hgo hl
        have HK : Aside0 (2 * j < 1000) := ⟨by omega⟩
        have hst : stateR a = aSt ((a.credit : Int) - (a.total : Int)) a.C.length a.P.length (heldN a false) (heldN a true) a.epoch := rfl
        have hst' : stateR a' = aSt ((a.credit : Int) - (a.total : Int)) a'.C.length a'.P.length (heldN a' false) (heldN a' true) a'.epoch := by unfold stateR; rw [HO.out.cr, HO.out.tot]
        have HST := Aside0.mk hst
        have HST' := Aside0.mk hst'
        clear hst hst'
        have hfd := fun w => field42 ((a.credit : Int) - (a.total : Int)) a.C.length a.P.length (heldN a false) (heldN a true) a.epoch w
        have hfd' := fun w => field42 ((a.credit : Int) - (a.total : Int)) a'.C.length a'.P.length (heldN a' false) (heldN a' true) a'.epoch w
        go_wp2_with (first | (go_at_call 13; refine (A_state HA.out.l1 (by have := HK.out; omega)).mono ?_; rewrite [HST.out]; rintro e w5 ⟨rfl, hb5⟩; have HA5 := Aside0.mk (HA.out.below hb5); clear hb5 HA) | (go_at_call 13; refine (A_state HA5.out.l2 (by have := HK.out; omega)).mono ?_; rewrite [HST'.out]; rintro e w6 ⟨rfl, hb6⟩; have HA6 := Aside0.mk (HA5.out.below hb6); clear hb6))
        go_ret
        exact ⟨rfl, HA6.out.be⟩
end Go.Proofs.Ytglekbbdbnpohaa.QLn
