/- Lane: LaneQueue: the walk. Written by a program of this repo (tools/gen_lqueue.py). -/
import Derived.Test.YtglekbbdbnpohaaH2Ln
import Derived.Test.YtglekbbdbnpohaaG2Ln
import Derived.Deep.CutBlock
import Derived.Deep.DeepCutAuto
namespace Go.Proofs.Ytglekbbdbnpohaa.QLn
open Go.RowKit Go.Proofs.YtglekbbdbnpohaaW.PrintWords Go.Proofs.YtglekbbdbnpohaaW.PrintLast Go.Proofs.YtglekbbdbnpohaaW.PrintMore
set_option linter.unusedVariables false
set_option linter.unusedSimpArgs false
theorem infoq36 : (Try.prog.info? 36).map (fun i => (i.zero, i.size, i.bytes)) = some (some (.agg #[.int .i64 0, .int .u64 0]), 2, 16) := by kernel_rfl
/-- What the loop of LaneQueue keeps. -/
def QR (W : World) (b m B : Nat) (j : Nat) (v u : Value) (wr : World) : Prop := ∃ a, Qw W b m a j B v (tsOf a) u (ssOf a) [] wr
/-- The slots while a slot is being laid: those before the place i are done. -/
def lq (ss : List (Int × Int)) (K : Nat) (s : Int × Int) (i : Nat) : List (Int × Int) := if K < i then ss.set K s else ss
theorem lq_zero (ss : List (Int × Int)) (K : Nat) (s : Int × Int) : lq ss K s 0 = ss := if_neg (Nat.not_lt_zero _)
theorem lq_len (ss : List (Int × Int)) (K : Nat) (s : Int × Int) (i : Nat) : (lq ss K s i).length = ss.length := by
  unfold lq
  split
  · rw [List.length_set]
  · rfl
theorem lq_at (ss : List (Int × Int)) (K : Nat) (s : Int × Int) : (lq ss K s K).set K s = lq ss K s (K + 1) := by
  unfold lq
  rw [if_neg (Nat.lt_irrefl _), if_pos (Nat.lt_succ_self _)]
theorem lq_no (ss : List (Int × Int)) {K : Nat} (s : Int × Int) {i : Nat} (h : i ≠ K) : lq ss K s (i + 1) = lq ss K s i := by
  unfold lq
  by_cases h1 : K < i
  · rw [if_pos h1, if_pos (Nat.lt_succ_of_lt h1)]
  · rw [if_neg h1, if_neg (by omega)]
theorem lq_end (ss : List (Int × Int)) (K : Nat) (s : Int × Int) {i : Nat} (h : ss.length ≤ i) : lq ss K s i = ss.set K s := by
  unfold lq
  by_cases h1 : K < i
  · rw [if_pos h1]
  · rw [if_neg h1, List.set_eq_of_length_le (by omega)]
theorem q_len {w0 w : World} {b mb : Nat} {a : AS} {k B : Nat} {v u : Value} {L : List (Nat × Obj)} (h : Qw w0 b mb a k B v (tsOf a) u (ssOf a) L w) (hk : k < 1000000) : (tsOf a).length ≤ 64 ∧ (ssOf a).length = (tsOf a).length := by
  have := h.aw.ln.bnd hk
  have h1 := this.2.1
  have h2 := this.2.2
  unfold AS.total at h1
  rw [ts_len, ss_len]
  omega
theorem q_ne {p : Int × Int} {q ep : Int} (h : p ≠ (q, ep)) : (p.1 == q && p.2 == ep) = false :=
  Bool.eq_false_iff.2 (fun hh => h (by
    simp only [Bool.and_eq_true, beq_iff_eq] at hh
    exact Prod.ext hh.1 hh.2))
set_option maxRecDepth 100000 in
set_option maxHeartbeats 8000000 in
theorem LaneQueue_hand (a0 : Int) (a1 : Bool) (a2 : Int) (A3 : Option Addr) (c3 : Nat) (l3 : List S40) (W : World) (hr3 : Kd.C k40 W A3 l3.length l3) (hc3 : l3.length ≤ c3) (h0 : (Lit.int .u8 a0).wf = true) (_ : True) (h2 : (Lit.int .u64 a2).wf = true) (h3 : l3.length * 56 ≤ 140737488351232 ∧ ∀ x ∈ l3, OpOk2 x) :
    Calls Try.prog 4 #[.int .u8 a0, .bool a1, .int .u64 a2, .slice A3 l3.length c3] W fun e w' => e = .returned (.bool true) ∧ Below W.heap.size W w' := by
  have HR := Aside0.mk hr3
  have H1 := Aside0.mk (c_u64 h2)
  have H2 := Aside0.mk h3.2
  have H20 := Aside0.mk h3.1
  have hb0 := c_u8 h0
  have e1 : IntKind.i64.wrap a0 = a0 := by rw [IntKind.wrap_i64]; omega
  have e2 : a0.tmod 64 = a0 % 64 := by rw [Int.tmod_eq_emod_of_nonneg hb0.1]
  have e3 : wrap64 (a0 % 64 + 1) = a0 % 64 + 1 := by unfold wrap64; omega
  obtain ⟨n, hn⟩ : ∃ n, a0 % 64 + 1 = n := ⟨_, rfl⟩
  have hn1 : 1 ≤ n := by omega
  have hn2 : n ≤ 64 := by omega
  rw [hn] at e3
  clear hr3 h2 h3 h0
  obtain ⟨i0, hi, hz0, hz1, hz2⟩ := info_parts info34
  have HI0 := Aside0.mk (And.intro hi (And.intro hz0 (And.intro hz1 hz2)))
  clear hi hz0 hz1 hz2
  obtain ⟨i1, hi, hz0, hz1, hz2⟩ := info_parts infoq36
  have HI1 := Aside0.mk (And.intro hi (And.intro hz0 (And.intro hz1 hz2)))
  clear hi hz0 hz1 hz2
  go_enter Try.func4, Try.ntmps4
  go_upto_region 3 with (go_at_call 9; refine (awake_calls _).mono ?_; rintro e w1 ⟨rfl, hb1⟩; have HB1 := Aside0.mk hb1; clear hb1)
  go_upto_region 4 with (go_at_call 10; refine (A_new n a1 a2 hn1 hn2 H1.out _).mono ?_; rintro e w2 ⟨rfl, hb2, hl2⟩; have HB2 := Aside0.mk (And.intro hb2 hl2); clear hb2 hl2)
  have HOI : Aside0 (QR W (w1.heap.size + 1) w1.heap.size w2.heap.size 0 (.slice none 0 0) (.slice none 0 0) w2) := by
    have h1 := HB1.out
    have h2 := HB2.out
    have hlt := h2.2.lt
    have hs1 := h1.size
    exact ⟨⟨_, ⟨⟨h2.2, h1.trans (h2.1.mono hs1), by omega, by omega, fun p hp => by cases hp⟩, by omega, RowQ.nil _ _ _ _, RowQ.nil _ _ _ _, Nat.le_refl _⟩⟩⟩
  clear HB1 HB2
  generalize w2.heap.size = B at HOI ⊢
  generalize w1.heap.size = m at HOI ⊢
  generalize m + 1 = b at HOI ⊢
  go_wp2
  go_loopw [11, 12, 13] (fun v u i wr => ∃ j : Nat, j ≤ 60 ∧ i = .int .i64 (j : Int) ∧ Aside0 (QR W b m B j v u wr)) (fun _ _ i _ => 60 - (intOf i).toNat)
  case atStart => exact ⟨0, by omega, rfl, HOI⟩
  case round =>
    clear HOI
    obtain ⟨j, hj60, rfl, HI⟩ := hrel
    by_cases hgo : j < l3.length ∧ j < 60
    · obtain ⟨a, hA⟩ := HI.out
      have HA := Aside0.mk hA
      clear hA HI
      have d1 : decide ((j : Int) < (l3.length : Int)) = true := decide_eq_true (by omega)
      have d1' : decide (j < l3.length) = true := decide_eq_true hgo.1
      have d2 : decide ((j : Int) < 60) = true := decide_eq_true (by omega)
      have d2' : decide (j < 60) = true := decide_eq_true hgo.2
      have HJ : Aside0 (j + 1 ≤ 60) := ⟨hgo.2⟩
      have HJL : Aside0 (j < l3.length) := ⟨hgo.1⟩
      have hx0 : (0 : Int) ≤ (j : Int) := by omega
      have hx1 : (j : Int) < (l3.length : Int) := by omega
      obtain ⟨ad, rfl, p0, p1, p2, p3, p4, p5, p6⟩ := at_T40 HR.out (j : Int) hx0 hx1
      have HOK := Aside0.mk (H2.out _ (c_mem hgo.1))
      obtain ⟨xx, hxx⟩ : ∃ xx, rd_T40 l3 (j : Int) = xx := ⟨_, rfl⟩
      rw [hxx, Int.toNat_natCast] at p0 p1 p2 p3 p4 p5 p6
      rw [hxx] at HOK
      have P0 := Aside0.mk p0
      have P1 := Aside0.mk p1
      have P2 := Aside0.mk p2
      have P3 := Aside0.mk p3
      have P4 := Aside0.mk p4
      have P5 := Aside0.mk p5
      have P6 := Aside0.mk p6
      clear p0 p1 p2 p3 p4 p5 p6
      have HQ : Aside0 (U64 xx.f1.f0) := ⟨c_u64 HOK.out.2.1.1⟩
      have hw : wrap64 ((j : Int) + 1) = (j : Int) + 1 := by unfold wrap64; omega
      have HH : Aside0 (60 - ((j : Int) + 1).toNat < 60 - ((j : Int)).toNat) := ⟨by omega⟩
      have HK : Aside0 (j + 2 < 1000000) := ⟨by omega⟩
      clear hxx hgo
      have q0 := pw_cell_below HA.out.aw.be P0.out
      have q1 := pw_cell_below HA.out.aw.be P1.out
      have q2 := pw_cell_below HA.out.aw.be P2.out
      by_cases hk1 : xx.f0 = 1
      · have k1 : (xx.f0 == 1) = true := by simp [hk1]
        clear hk1
        by_cases htot : a.total < a.credit
        · obtain ⟨tq, htq⟩ : ∃ tq, ab a.start a.tail = tq := ⟨_, rfl⟩
          obtain ⟨te, hte⟩ : ∃ te, (a.epoch : Int) = te := ⟨_, rfl⟩
          have hcl : claimR a = (claimA a, .tuple #[.agg (aTick tq te), .int .i64 0]) := by unfold claimR; rw [if_pos htot, htq, hte]
          have HTS : Aside0 (tsOf (claimA a) = tsOf a ++ [(tq, te)] ∧ ssOf (claimA a) = ssOf a ++ [(0, 0)]) := ⟨by rw [← htq, ← hte]; exact q_claim a⟩
          have HLN := Aside0.mk (q_len HA.out (by have := HK.out; omega))
          have HCL := Aside0.mk hcl
          clear hcl htot htq hte
          go_upto_region 15 with (go_at_call 15; refine (A_claim HA.out.aw.ln).mono ?_; rewrite [HCL.out]; rintro e w5 ⟨rfl, hl5, hf5⟩; have HA2 := Aside0.mk ((HA.out.call hl5 hf5).alloc (.cells (aTick tq te) 34)); clear hl5 hf5)
          clear q0 q1 q2
          generalize w5.alloc (.cells (aTick tq te) 34) = w6 at HA2 ⊢
          generalize w5.heap.size = g at HA2 ⊢
          have s0 : w6.cell? ⟨g, 0, none⟩ = some (.int .u64 tq) := (HA2.out.aw.ptr (C := aTick tq te) (t := 34) (by simp) 0).1
          have s1 : w6.cell? ⟨g, 1, none⟩ = some (.int .u64 te) := (HA2.out.aw.ptr (C := aTick tq te) (t := 34) (by simp) 1).1
          go_wp2_with (first | ((with_reducible refine gate_builtin (b := .append) rfl ?_); at_builtin; (refine wpList_append_Q _ rfl (.tmp 77) (.tmp 79) 45 rfl 34 i0 _ 2 16 Try.underlying45 HI0.out.1 HI0.out.2.1 HI0.out.2.2.1 HI0.out.2.2.2 rfl (by decide) B u11 (tsOf a).length (fT (tsOf a)) rfl (HA2.out.alloc (.cells (aTick tq te) 34)).ro (HA2.out.alloc (.cells (aTick tq te) 34)).sz _ 1 [.int .u64 tq, .int .u64 te] rfl rfl (cells_new _ _ _) (by intro u hu; simp only [List.mem_cons, List.not_mem_nil, or_false] at hu; rcases hu with rfl | rfl <;> rfl) (by have := HLN.out; unfold maxLen; omega) (by have := HLN.out; omega) ?_); intro v' w9 hown' hgrow; have HA5 := Aside0.mk ((HA2.out.alloc (.cells (aTick tq te) 34)).out hgrow hown'); clear hown' hgrow) | ((with_reducible refine gate_builtin (b := .append) rfl ?_); at_builtin; (refine wpList_append_Q _ rfl (.tmp 81) (.tmp 83) 46 rfl 36 i1 _ 2 16 Try.underlying46 HI1.out.1 HI1.out.2.1 HI1.out.2.2.1 HI1.out.2.2.2 rfl (by decide) B u12 (ssOf a).length (fQ (ssOf a)) rfl (HA5.out.alloc (.cells #[.int .i64 0, .int .u64 0] 36)).rs (HA5.out.alloc (.cells #[.int .i64 0, .int .u64 0] 36)).sz _ 1 [.int .i64 0, .int .u64 0] rfl rfl (cells_new _ _ _) (by intro u hu; simp only [List.mem_cons, List.not_mem_nil, or_false] at hu; rcases hu with rfl | rfl <;> rfl) (by have := HLN.out; unfold maxLen; omega) (by have := HLN.out; omega) ?_); intro v2' w10 hown' hgrow; have HA6 := Aside0.mk ((HA5.out.alloc (.cells #[.int .i64 0, .int .u64 0] 36)).slots hgrow hown'); clear hown' hgrow))
          go_roundw
          case rel => exact ⟨j + 1, HJ.out, (by first | rfl | (rw [hw]; rfl)), ⟨⟨_, by rw [(HTS.out).1, (HTS.out).2]; exact HA6.out⟩⟩⟩
          case measure => first | exact HH.out | (simp only [hw]; exact HH.out)
        · have hcl : claimR a = (a, .tuple #[.agg (aTick 0 0), .int .i64 81]) := by unfold claimR; rw [if_neg htot]
          have HCL := Aside0.mk hcl
          clear hcl htot
          go_upto_region 15 with (go_at_call 15; refine (A_claim HA.out.aw.ln).mono ?_; rewrite [HCL.out]; rintro e w5 ⟨rfl, hl5, hf5⟩; have HA2 := Aside0.mk ((HA.out.call hl5 hf5).alloc (.cells (aTick 0 0) 34)); clear hl5 hf5)
          clear q0 q1 q2
          generalize w5.alloc (.cells (aTick 0 0) 34) = w6 at HA2 ⊢
          go_wp2_with fail
          go_roundw
          case rel => exact ⟨j + 1, HJ.out, (by first | rfl | (rw [hw]; rfl)), ⟨⟨_, HA2.out.sub (fun p hp => by cases hp)⟩⟩⟩
          case measure => first | exact HH.out | (simp only [hw]; exact HH.out)
      · skip
        by_cases hk2 : xx.f0 = 2
        · have k1 : (xx.f0 == 1) = false := by simp [hk1]
          have k2 : (xx.f0 == 2) = true := by simp [hk2]
          clear hk1 hk2
          obtain ⟨er, K, y1, y2, y3, y4⟩ := q_lay a (HA.out.aw.ln.bnd (by have := HK.out; omega)).1 HQ.out xx.f1.f1 xx.f2.f0 xx.f2.f1
          have HLN := Aside0.mk (q_len HA.out (by have := HK.out; omega))
          generalize tsOf a = ts at HA y2 y4 HLN
          generalize ssOf a = ss at HA y3 HLN
          obtain ⟨A, c, A', c', rfl, rfl, hc, hc'⟩ := HA.out.forms
          have HCC := Aside0.mk (And.intro hc hc')
          have HLY := Aside0.mk (And.intro y1 (And.intro y2 (And.intro y3 y4)))
          clear y1 y2 y3 y4 hc hc' q0 q1 q2
          have q0 := pw_cell_below HA.out.aw.be P0.out
          go_upto_region 18 with fail
          clear q0
          refine wp_region_held_drew (S := fun w' => Below W.heap.size W w') (by kernel_rfl) HA.out.aw.be.drew (fun hHeld => ?_)
          refine take_at (i := 0) (v := _) 87 rfl rfl (by kernel_rfl) (by kernel_rfl) (by kernel_rfl) (fun _ _ _ h => h) (Or.inl ⟨by rfl, fun w' hW => by have hq0 := pw_cell_below hW P1.out; have hq1 := pw_cell_below hW P2.out; have hq2 := pw_cell_below hW P3.out; have hq3 := pw_cell_below hW P4.out; first | (go_simp; done) | (go_simp; with_reducible rfl) | (go_simp; rfl)⟩) hHeld ?_
          try simp only [Act.put, List.setIfInBounds_toArray, List.set_cons_zero, List.set_cons_succ]
          refine take_at (i := 1) (v := _) 88 rfl rfl (by kernel_rfl) (by kernel_rfl) (by kernel_rfl) (fun _ _ _ h => h) (Or.inl ⟨by rfl, fun w' hW => by have hq0 := pw_cell_below hW P1.out; have hq1 := pw_cell_below hW P2.out; have hq2 := pw_cell_below hW P3.out; have hq3 := pw_cell_below hW P4.out; first | (go_simp; done) | (go_simp; with_reducible rfl) | (go_simp; rfl)⟩) hHeld ?_
          try simp only [Act.put, List.setIfInBounds_toArray, List.set_cons_zero, List.set_cons_succ]
          refine take_at (i := 2) (v := _) 89 rfl rfl (by kernel_rfl) (by kernel_rfl) (by kernel_rfl) (fun _ _ _ h => h) (Or.inl ⟨by rfl, fun w' hW => by have hq0 := pw_cell_below hW P1.out; have hq1 := pw_cell_below hW P2.out; have hq2 := pw_cell_below hW P3.out; have hq3 := pw_cell_below hW P4.out; first | (go_simp; done) | (go_simp; with_reducible rfl) | (go_simp; rfl)⟩) hHeld ?_
          try simp only [Act.put, List.setIfInBounds_toArray, List.set_cons_zero, List.set_cons_succ]
          refine take_at (i := 3) (v := _) 90 rfl rfl (by kernel_rfl) (by kernel_rfl) (by kernel_rfl) (fun _ _ _ h => h) (Or.inl ⟨by rfl, fun w' hW => by have hq0 := pw_cell_below hW P1.out; have hq1 := pw_cell_below hW P2.out; have hq2 := pw_cell_below hW P3.out; have hq3 := pw_cell_below hW P4.out; first | (go_simp; done) | (go_simp; with_reducible rfl) | (go_simp; rfl)⟩) hHeld ?_
          try simp only [Act.put, List.setIfInBounds_toArray, List.set_cons_zero, List.set_cons_succ]
          refine take_at (i := 4) (v := _) 91 rfl rfl (by kernel_rfl) (by kernel_rfl) (by kernel_rfl) (fun _ _ _ h => h) (Or.inl ⟨by rfl, fun w' hW => by have hq0 := pw_cell_below hW P1.out; have hq1 := pw_cell_below hW P2.out; have hq2 := pw_cell_below hW P3.out; have hq3 := pw_cell_below hW P4.out; first | (go_simp; done) | (go_simp; with_reducible rfl) | (go_simp; rfl)⟩) hHeld ?_
          try simp only [Act.put, List.setIfInBounds_toArray, List.set_cons_zero, List.set_cons_succ]
          refine take_at (i := 5) (v := _) 92 rfl rfl (by kernel_rfl) (by kernel_rfl) (by kernel_rfl) (fun _ _ _ h => h) (Or.inl ⟨by rfl, fun w' hW => by have hq0 := pw_cell_below hW P1.out; have hq1 := pw_cell_below hW P2.out; have hq2 := pw_cell_below hW P3.out; have hq3 := pw_cell_below hW P4.out; first | (go_simp; done) | (go_simp; with_reducible rfl) | (go_simp; rfl)⟩) hHeld ?_
          try simp only [Act.put, List.setIfInBounds_toArray, List.set_cons_zero, List.set_cons_succ]
          refine take_at (i := 6) (v := _) 93 rfl rfl (by kernel_rfl) (by kernel_rfl) (by kernel_rfl) (fun _ _ _ h => h) (Or.inl ⟨by rfl, fun w' hW => by have hq0 := pw_cell_below hW P1.out; have hq1 := pw_cell_below hW P2.out; have hq2 := pw_cell_below hW P3.out; have hq3 := pw_cell_below hW P4.out; first | (go_simp; done) | (go_simp; with_reducible rfl) | (go_simp; rfl)⟩) hHeld ?_
          try simp only [Act.put, List.setIfInBounds_toArray, List.set_cons_zero, List.set_cons_succ]
          refine take_at (i := 7) (v := _) 94 rfl rfl (by kernel_rfl) (by kernel_rfl) (by kernel_rfl) (fun _ _ _ h => h) (Or.inl ⟨by rfl, fun w' hW => by have hq0 := pw_cell_below hW P1.out; have hq1 := pw_cell_below hW P2.out; have hq2 := pw_cell_below hW P3.out; have hq3 := pw_cell_below hW P4.out; first | (go_simp; done) | (go_simp; with_reducible rfl) | (go_simp; rfl)⟩) hHeld ?_
          try simp only [Act.put, List.setIfInBounds_toArray, List.set_cons_zero, List.set_cons_succ]
          refine take_at (i := 8) (v := _) 95 rfl rfl (by kernel_rfl) (by kernel_rfl) (by kernel_rfl) (fun _ _ _ h => h) (Or.inl ⟨by rfl, fun w' hW => by have hq0 := pw_cell_below hW P1.out; have hq1 := pw_cell_below hW P2.out; have hq2 := pw_cell_below hW P3.out; have hq3 := pw_cell_below hW P4.out; first | (go_simp; done) | (go_simp; with_reducible rfl) | (go_simp; rfl)⟩) hHeld ?_
          try simp only [Act.put, List.setIfInBounds_toArray, List.set_cons_zero, List.set_cons_succ]
          refine take_at (i := 9) (v := _) 96 rfl rfl (by kernel_rfl) (by kernel_rfl) (by kernel_rfl) (fun _ _ _ h => h) (Or.inl ⟨by rfl, fun w' hW => by have hq0 := pw_cell_below hW P1.out; have hq1 := pw_cell_below hW P2.out; have hq2 := pw_cell_below hW P3.out; have hq3 := pw_cell_below hW P4.out; first | (go_simp; done) | (go_simp; with_reducible rfl) | (go_simp; rfl)⟩) hHeld ?_
          try simp only [Act.put, List.setIfInBounds_toArray, List.set_cons_zero, List.set_cons_succ]
          refine take_at (i := 10) (v := _) 97 rfl rfl (by kernel_rfl) (by kernel_rfl) (by kernel_rfl) (fun _ _ _ h => h) (Or.inl ⟨by rfl, fun w' hW => by have hq0 := pw_cell_below hW P1.out; have hq1 := pw_cell_below hW P2.out; have hq2 := pw_cell_below hW P3.out; have hq3 := pw_cell_below hW P4.out; first | (go_simp; done) | (go_simp; with_reducible rfl) | (go_simp; rfl)⟩) hHeld ?_
          try simp only [Act.put, List.setIfInBounds_toArray, List.set_cons_zero, List.set_cons_succ]
          have HA2 := Aside0.mk (HA.out.below (Below.refl _ _).drew)
          clear hHeld HA
          generalize wr.drew = w5 at HA2 ⊢
          refine wpAnyH_ready (rs := [11]) (by kernel_rfl) (by simp) ?_
          refine AllReadyH.cons rfl (fun K hK => ?_) AllReadyH.nil
          go_simp
          go_wp2_with (go_at_call 16; refine (A_lay HA2.out.aw.ln (by have := HK.out; omega) xx.f1.f0 xx.f1.f1 xx.f2.f0 xx.f2.f1 HQ.out).mono ?_; rewrite [HLY.out.1]; rintro e w6 ⟨rfl, hl6, hf6⟩; have HA3 := Aside0.mk (HA2.out.call hl6 hf6); clear hl6 hf6 HA2)
          refine hK.out _ _ HA3.out.aw.be (fun hHeld => ?_)
          clear hK K
          try simp only [Act.put, List.setIfInBounds_toArray, List.set_cons_zero, List.set_cons_succ]
          refine take_at (i := 12) (v := _) 16 rfl rfl (by kernel_rfl) (by kernel_rfl) (by kernel_rfl) (fun _ _ _ h => h) (Or.inl ⟨by rfl, fun w' hW => by have hq0 := pw_cell_below hW P1.out; have hq1 := pw_cell_below hW P2.out; have hq2 := pw_cell_below hW P3.out; have hq3 := pw_cell_below hW P4.out; first | (go_simp; done) | (go_simp; with_reducible rfl) | (go_simp; rfl)⟩) hHeld ?_
          try simp only [Act.put, List.setIfInBounds_toArray, List.set_cons_zero, List.set_cons_succ]
          refine wpAnyH_done (by kernel_rfl) ?_ _
          clear hHeld
          generalize (layR a xx.f1.f0 xx.f1.f1 xx.f2.f0 xx.f2.f1).1 = a' at HA3 HLY
          have HQ0 : Aside0 (Qw W b m a' (j + 1) B (.slice A ts.length c) ts (.slice A' ss.length c') (lq ss K (xx.f2.f0, xx.f2.f1) 0) [] w6) := ⟨by rw [lq_zero]; exact HA3.out⟩
          go_wp2
          go_loopw [17] (fun i wr => ∃ i0 : Nat, i0 ≤ ts.length ∧ i = .int .i64 (i0 : Int) ∧ Aside0 (Qw W b m a' (j + 1) B (.slice A ts.length c) ts (.slice A' ss.length c') (lq ss K (xx.f2.f0, xx.f2.f1) i0) [] wr)) (fun i _ => ts.length - (intOf i).toNat)
          case atStart => exact ⟨0, Nat.zero_le _, rfl, HQ0⟩
          case round =>
            clear HQ0 HA3
            obtain ⟨i, hil, rfl, HS⟩ := hrel
            by_cases hlt : i < ts.length
            · have x1 : decide ((i : Int) < (ts.length : Int)) = true := decide_eq_true (Int.ofNat_lt.2 hlt)
              have x1' : decide (i < ts.length) = true := decide_eq_true hlt
              have b1 : (0 : Int) ≤ (i : Int) := Int.natCast_nonneg i
              have b2 : (i : Int) < (ts.length : Int) := Int.ofNat_lt.2 hlt
              have b3 : (i : Int) < (ss.length : Int) := by rw [HLN.out.2]; exact b2
              have ht : ((i : Int)).toNat = i := Int.toNat_natCast i
              have hwi : wrap64 ((i : Int) + 1) = (i : Int) + 1 := w64_nat (Nat.lt_of_lt_of_le hlt (Nat.le_trans HLN.out.1 (by decide)))
              have HHi : Aside0 (ts.length - ((i : Int) + 1).toNat < ts.length - ((i : Int)).toNat) := ⟨meas_nat hlt⟩
              have HL : Aside0 (i + 1 ≤ ts.length) := ⟨hlt⟩
              have hls : i < (lq ss K (xx.f2.f0, xx.f2.f1) i).length := by rw [lq_len, HLN.out.2]; exact hlt
              have HIFF := Aside0.mk (HLY.out.2.2.2 i hlt)
              obtain ⟨gT, oT, rfl, c0, c1⟩ := HS.out.tick (List.getElem?_eq_getElem hlt)
              have q1 := pw_cell_below HS.out.aw.be P1.out
              have q2 := pw_cell_below HS.out.aw.be P2.out
              rw [List.getElem?_eq_getElem hlt] at HIFF
              generalize ts[i] = p at c0 c1 HIFF
              clear hlt hil
              by_cases hiK : i = K
              · subst hiK
                have hpe : er = 0 ∧ p = (xx.f1.f0, xx.f1.f1) := by have := HIFF.out.2 rfl; exact ⟨this.1, Option.some.inj this.2⟩
                clear HIFF
                have HE := Aside0.mk hpe
                clear hpe
                obtain ⟨hz, hpe⟩ := HE.out
                subst hz hpe
                go_upto_region 22 with fail
                go_quiet (fail)
                have HS2 := Aside0.mk (HS.out.below (pw_below_drewN (Below.refl _ _) nq))
                clear HS
                generalize wr.drewN nq = w8 at HS2 ⊢
                obtain ⟨g', o', cur, rfl, hb, hsz, d3, d4, hset⟩ := HS2.out.slot (i := i) (List.getElem?_eq_getElem hls)
                have HSET := Aside0.mk (And.intro hb (And.intro hsz (hset xx.f2.f0 xx.f2.f1)))
                clear hb hsz hset d3 d4
                have y0 := pw_cell_below HS2.out.aw.be P3.out
                have y1 := pw_cell_below HS2.out.aw.be P4.out
                clear q1 q2 c0 c1
                go_wp2_with (first | ((with_reducible refine gate_store (t := 36) (p := 126) rfl ?_); refine store_blk rfl 36 (.tmp 126) (.tmp 125) rfl g' (o' + i * 2) #[.int .i64 xx.f2.f0, .int .u64 xx.f2.f1] cur 36 rfl rfl HSET.out.1 HSET.out.2.1 (by kernel_rfl) (by kernel_rfl) ?_; intro w9 hw9 _; have HS4 : Aside0 (Qw W b m a' (j + 1) B (.slice (some ⟨gT, oT, none⟩) ts.length c) ts (.slice (some ⟨g', o', none⟩) ss.length c') ((lq ss i (xx.f2.f0, xx.f2.f1) i).set i (xx.f2.f0, xx.f2.f1)) [] w9) := ⟨by rw [hw9]; exact HSET.out.2.2⟩; clear hw9))
                go_roundw
                case rel => exact ⟨i + 1, HL.out, (by first | rfl | (rw [hwi]; rfl)), ⟨by rw [← lq_at]; exact HS4.out⟩⟩
                case measure => first | exact HHi.out | (simp only [hwi]; exact HHi.out)
              · have HNE := Aside0.mk hiK
                by_cases her : er = 0
                · subst her
                  have hne : p ≠ (xx.f1.f0, xx.f1.f1) := fun h => hiK (HIFF.out.1 ⟨rfl, by rw [h]⟩)
                  clear hiK
                  by_cases hp1 : p.1 = xx.f1.f0
                  · have z1 : (p.1 == xx.f1.f0) = true := by simp [hp1]
                    have z2 : (p.2 == xx.f1.f1) = false := by
                      cases hh : (p.2 == xx.f1.f1) with
                      | false => rfl
                      | true => exact absurd (Prod.ext hp1 (beq_iff_eq.1 hh)) hne
                    clear hne hp1
                    go_upto_region 22 with fail
                    go_quiet (fail)
                    have HS2 := Aside0.mk (HS.out.below (pw_below_drewN (Below.refl _ _) nq))
                    go_wp2_with fail
                    go_roundw
                    case rel => exact ⟨i + 1, HL.out, (by first | rfl | (rw [hwi]; rfl)), ⟨by rw [lq_no _ _ HNE.out]; exact HS2.out⟩⟩
                    case measure => first | exact HHi.out | (simp only [hwi]; exact HHi.out)
                  · have z1 : (p.1 == xx.f1.f0) = false := by simp [hp1]
                    clear hne hp1
                    go_upto_region 22 with fail
                    go_quiet (fail)
                    have HS2 := Aside0.mk (HS.out.below (pw_below_drewN (Below.refl _ _) nq))
                    go_wp2_with fail
                    go_roundw
                    case rel => exact ⟨i + 1, HL.out, (by first | rfl | (rw [hwi]; rfl)), ⟨by rw [lq_no _ _ HNE.out]; exact HS2.out⟩⟩
                    case measure => first | exact HHi.out | (simp only [hwi]; exact HHi.out)
                · have z1 : (er == 0) = false := by simp [her]
                  clear her hiK
                  go_upto_region 22 with fail
                  go_quiet (fail)
                  have HS2 := Aside0.mk (HS.out.below (pw_below_drewN (Below.refl _ _) nq))
                  go_wp2_with fail
                  go_roundw
                  case rel => exact ⟨i + 1, HL.out, (by first | rfl | (rw [hwi]; rfl)), ⟨by rw [lq_no _ _ HNE.out]; exact HS2.out⟩⟩
                  case measure => first | exact HHi.out | (simp only [hwi]; exact HHi.out)
            · have x1 : decide ((i : Int) < (ts.length : Int)) = false := decide_eq_false (fun h => hlt (Int.ofNat_lt.1 h))
              have x1' : decide (i < ts.length) = false := decide_eq_false hlt
              have HEND : Aside0 (QR W b m B (j + 1) (.slice A ts.length c) (.slice A' ss.length c') wr) := ⟨⟨a', by
                have h1 := HS.out
                rw [lq_end _ _ _ (by have := HLN.out.2; omega)] at h1
                have e1 := HLY.out.2.1
                have e2 := HLY.out.2.2.1
                rw [e1, e2]
                exact h1⟩⟩
              clear HS hlt hil
              go_wp2
              go_roundw
              case rel => exact ⟨j + 1, HJ.out, (by first | rfl | (rw [hw]; rfl)), ⟨HEND.out⟩⟩
              case measure => first | exact HH.out | (simp only [hw]; exact HH.out)
        · skip
          by_cases hk6 : xx.f0 = 6
          · have k1 : (xx.f0 == 1) = false := by simp [hk1]
            have k2 : (xx.f0 == 2) = false := by simp [hk2]
            have k6 : (xx.f0 == 6) = true := by simp [hk6]
            clear hk1 hk2 hk6
            have HLN := Aside0.mk (q_len HA.out (by have := HK.out; omega))
            cases hP : a.P with
            | nil =>
              have HTK := Aside0.mk (q_take0 hP)
              clear hP
              go_upto_region 26 with (go_at_call 17; refine (A_take HA.out.aw.ln (by have := HK.out; omega)).mono ?_; rewrite [HTK.out]; rintro e w5 ⟨rfl, hl5, hf5⟩; have HA2 := Aside0.mk ((HA.out.call hl5 hf5).alloc2 (.cells (aSlot 0 0) 36) (.cells (aTick 0 0) 34)); clear hl5 hf5)
              clear q0 q1 q2
              skip
              generalize (w5.alloc (.cells (aSlot 0 0) 36)).alloc (.cells (aTick 0 0) 34) = w6 at HA2 ⊢
              go_wp2_with fail
              go_roundw
              case rel => exact ⟨j + 1, HJ.out, (by first | rfl | (rw [hw]; rfl)), ⟨⟨_, HA2.out.sub (fun p hp => by cases hp)⟩⟩⟩
              case measure => first | exact HH.out | (simp only [hw]; exact HH.out)
            | cons e P =>
              obtain ⟨t1, t2, t3⟩ := q_take hP
              obtain ⟨tq, htq⟩ : ∃ tq, ab a.start a.head = tq := ⟨_, rfl⟩
              obtain ⟨te, hte⟩ : ∃ te, (a.epoch : Int) = te := ⟨_, rfl⟩
              rw [htq, hte] at t1 t2
              have HTK := Aside0.mk t1
              rw [t2, t3] at HA HLN
              clear t1 t2 t3 hP htq hte
              obtain ⟨en, hen⟩ : ∃ en, e.n = en := ⟨_, rfl⟩
              obtain ⟨eg, heg⟩ : ∃ eg, e.g = eg := ⟨_, rfl⟩
              rw [hen, heg] at HTK HA HLN
              clear hen heg
              generalize takeA a e P = a' at HTK HA HLN
              obtain ⟨A, c, A', c', e1, e2, hc, hc'⟩ := HA.out.forms
              have hTT := HLN.out.2
              have hT1 : 1 ≤ ((tq, te) :: tsOf a').length := Nat.succ_le_succ (Nat.zero_le _)
              have hT64 := HLN.out.1
              rw [hTT] at e2 hc'
              generalize hT : ((tq, te) :: tsOf a').length = T at e1 e2 hc hc' hT1 hT64
              have HT := Aside0.mk hT
              subst e1 e2
              have HCC := Aside0.mk (And.intro hc (And.intro hc' (And.intro hT1 hT64)))
              clear hc hc' hTT hT hT1 hT64
              go_upto_region 26 with (go_at_call 17; refine (A_take HA.out.aw.ln (by have := HK.out; omega)).mono ?_; rewrite [HTK.out]; rintro e w5 ⟨rfl, hl5, hf5⟩; have HA2 := Aside0.mk ((HA.out.call hl5 hf5).alloc2 (.cells (aSlot en eg) 36) (.cells (aTick tq te) 34)); clear hl5 hf5 HA)
              clear q0 q1 q2
              generalize (w5.alloc (.cells (aSlot en eg) 36)).alloc (.cells (aTick tq te) 34) = w6 at HA2 ⊢
              generalize w5.heap.size = g0 at HA2 ⊢
              obtain ⟨gT, oT, rfl, c0, c1⟩ := HA2.out.tick (i := 0) rfl
              obtain ⟨gS, oS, cur, rfl, hb, hsz, c2, c3', hset⟩ := HA2.out.slot (i := 0) rfl
              clear hset hb hsz
              have s0 : w6.cell? ⟨g0, 0, none⟩ = some (.int .i64 en) := (HA2.out.aw.ptr (C := aSlot en eg) (t := 36) (by simp) 0).1
              have s1 : w6.cell? ⟨g0, 1, none⟩ = some (.int .u64 eg) := (HA2.out.aw.ptr (C := aSlot en eg) (t := 36) (by simp) 1).1
              have s2 : w6.cell? ⟨g0 + 1, 0, none⟩ = some (.int .u64 tq) := (HA2.out.aw.ptr (C := aTick tq te) (t := 34) (by simp) 0).1
              have s3 : w6.cell? ⟨g0 + 1, 1, none⟩ = some (.int .u64 te) := (HA2.out.aw.ptr (C := aTick tq te) (t := 34) (by simp) 1).1
              obtain ⟨y1, y2, y3, y4⟩ := cr_ne HCC.out.2.2.1
              have y5 : (0 : Int) < (T : Int) := Int.ofNat_lt.2 HCC.out.2.2.1
              have y6 : 0 < T := HCC.out.2.2.1
              have y7 : (1 : Int) ≤ (T : Int) := Int.ofNat_le.2 HCC.out.2.2.1
              go_upto_region 27 with fail
              refine wp_region_held_drew (S := fun w' => (w'.cell? ⟨g0, 0, none⟩ = some (.int .i64 en) ∧ w'.cell? ⟨g0, 1, none⟩ = some (.int .u64 eg) ∧ w'.cell? ⟨g0 + 1, 0, none⟩ = some (.int .u64 tq) ∧ w'.cell? ⟨g0 + 1, 1, none⟩ = some (.int .u64 te)) ∧ (w'.cell? ⟨gT, oT, none⟩ = some (.int .u64 tq) ∧ w'.cell? ⟨gT, oT + 1, none⟩ = some (.int .u64 te) ∧ w'.cell? ⟨gS, oS, none⟩ = some (.int .i64 en) ∧ w'.cell? ⟨gS, oS + 1, none⟩ = some (.int .u64 eg))) (by kernel_rfl) ⟨⟨s0, s1, s2, s3⟩, ⟨c0, c1, c2, c3'⟩⟩ (fun hHeld => ?_)
              refine take_at (i := 0) (v := _) 137 rfl rfl (by kernel_rfl) (by kernel_rfl) (by kernel_rfl) (fun _ _ _ h => h) (Or.inl ⟨by rfl, fun w' hW => by have hq0 := hW.1.1; have hq1 := hW.1.2.1; have hq2 := hW.1.2.2.1; have hq3 := hW.1.2.2.2; have hq4 := hW.2.1; have hq5 := hW.2.2.1; have hq6 := hW.2.2.2.1; have hq7 := hW.2.2.2.2; first | (go_simp; done) | (go_simp; with_reducible rfl) | (go_simp; rfl)⟩) hHeld ?_
              try simp only [Act.put, List.setIfInBounds_toArray, List.set_cons_zero, List.set_cons_succ]
              refine take_at (i := 1) (v := _) 138 rfl rfl (by kernel_rfl) (by kernel_rfl) (by kernel_rfl) (fun _ _ _ h => h) (Or.inl ⟨by rfl, fun w' hW => by have hq0 := hW.1.1; have hq1 := hW.1.2.1; have hq2 := hW.1.2.2.1; have hq3 := hW.1.2.2.2; have hq4 := hW.2.1; have hq5 := hW.2.2.1; have hq6 := hW.2.2.2.1; have hq7 := hW.2.2.2.2; first | (go_simp; done) | (go_simp; with_reducible rfl) | (go_simp; rfl)⟩) hHeld ?_
              try simp only [Act.put, List.setIfInBounds_toArray, List.set_cons_zero, List.set_cons_succ]
              refine take_at (i := 2) (v := _) 139 rfl rfl (by kernel_rfl) (by kernel_rfl) (by kernel_rfl) (fun _ _ _ h => h) (Or.inl ⟨by rfl, fun w' hW => by have hq0 := hW.1.1; have hq1 := hW.1.2.1; have hq2 := hW.1.2.2.1; have hq3 := hW.1.2.2.2; have hq4 := hW.2.1; have hq5 := hW.2.2.1; have hq6 := hW.2.2.2.1; have hq7 := hW.2.2.2.2; first | (go_simp; done) | (go_simp; with_reducible rfl) | (go_simp; rfl)⟩) hHeld ?_
              try simp only [Act.put, List.setIfInBounds_toArray, List.set_cons_zero, List.set_cons_succ]
              refine take_at (i := 3) (v := _) 140 rfl rfl (by kernel_rfl) (by kernel_rfl) (by kernel_rfl) (fun _ _ _ h => h) (Or.inl ⟨by rfl, fun w' hW => by have hq0 := hW.1.1; have hq1 := hW.1.2.1; have hq2 := hW.1.2.2.1; have hq3 := hW.1.2.2.2; have hq4 := hW.2.1; have hq5 := hW.2.2.1; have hq6 := hW.2.2.2.1; have hq7 := hW.2.2.2.2; first | (go_simp; done) | (go_simp; with_reducible rfl) | (go_simp; rfl)⟩) hHeld ?_
              try simp only [Act.put, List.setIfInBounds_toArray, List.set_cons_zero, List.set_cons_succ]
              refine take_at (i := 4) (v := _) 141 rfl rfl (by kernel_rfl) (by kernel_rfl) (by kernel_rfl) (fun _ _ _ h => h) (Or.inl ⟨by rfl, fun w' hW => by have hq0 := hW.1.1; have hq1 := hW.1.2.1; have hq2 := hW.1.2.2.1; have hq3 := hW.1.2.2.2; have hq4 := hW.2.1; have hq5 := hW.2.2.1; have hq6 := hW.2.2.2.1; have hq7 := hW.2.2.2.2; first | (go_simp; done) | (go_simp; with_reducible rfl) | (go_simp; rfl)⟩) hHeld ?_
              try simp only [Act.put, List.setIfInBounds_toArray, List.set_cons_zero, List.set_cons_succ]
              refine take_at (i := 5) (v := _) 142 rfl rfl (by kernel_rfl) (by kernel_rfl) (by kernel_rfl) (fun _ _ _ h => h) (Or.inl ⟨by rfl, fun w' hW => by have hq0 := hW.1.1; have hq1 := hW.1.2.1; have hq2 := hW.1.2.2.1; have hq3 := hW.1.2.2.2; have hq4 := hW.2.1; have hq5 := hW.2.2.1; have hq6 := hW.2.2.2.1; have hq7 := hW.2.2.2.2; first | (go_simp; done) | (go_simp; with_reducible rfl) | (go_simp; rfl)⟩) hHeld ?_
              try simp only [Act.put, List.setIfInBounds_toArray, List.set_cons_zero, List.set_cons_succ]
              refine take_at (i := 6) (v := _) 143 rfl rfl (by kernel_rfl) (by kernel_rfl) (by kernel_rfl) (fun _ _ _ h => h) (Or.inl ⟨by rfl, fun w' hW => by have hq0 := hW.1.1; have hq1 := hW.1.2.1; have hq2 := hW.1.2.2.1; have hq3 := hW.1.2.2.2; have hq4 := hW.2.1; have hq5 := hW.2.2.1; have hq6 := hW.2.2.2.1; have hq7 := hW.2.2.2.2; first | (go_simp; done) | (go_simp; with_reducible rfl) | (go_simp; rfl)⟩) hHeld ?_
              try simp only [Act.put, List.setIfInBounds_toArray, List.set_cons_zero, List.set_cons_succ]
              refine take_at (i := 7) (v := _) 144 rfl rfl (by kernel_rfl) (by kernel_rfl) (by kernel_rfl) (fun _ _ _ h => h) (Or.inl ⟨by rfl, fun w' hW => by have hq0 := hW.1.1; have hq1 := hW.1.2.1; have hq2 := hW.1.2.2.1; have hq3 := hW.1.2.2.2; have hq4 := hW.2.1; have hq5 := hW.2.2.1; have hq6 := hW.2.2.2.1; have hq7 := hW.2.2.2.2; first | (go_simp; done) | (go_simp; with_reducible rfl) | (go_simp; rfl)⟩) hHeld ?_
              try simp only [Act.put, List.setIfInBounds_toArray, List.set_cons_zero, List.set_cons_succ]
              refine take_at (i := 8) (v := _) 145 rfl rfl (by kernel_rfl) (by kernel_rfl) (by kernel_rfl) (fun _ _ _ h => h) (Or.inl ⟨by rfl, fun w' hW => by have hq0 := hW.1.1; have hq1 := hW.1.2.1; have hq2 := hW.1.2.2.1; have hq3 := hW.1.2.2.2; have hq4 := hW.2.1; have hq5 := hW.2.2.1; have hq6 := hW.2.2.2.1; have hq7 := hW.2.2.2.2; first | (go_simp; done) | (go_simp; with_reducible rfl) | (go_simp; rfl)⟩) hHeld ?_
              try simp only [Act.put, List.setIfInBounds_toArray, List.set_cons_zero, List.set_cons_succ]
              refine take_at (i := 9) (v := _) 146 rfl rfl (by kernel_rfl) (by kernel_rfl) (by kernel_rfl) (fun _ _ _ h => h) (Or.inl ⟨by rfl, fun w' hW => by have hq0 := hW.1.1; have hq1 := hW.1.2.1; have hq2 := hW.1.2.2.1; have hq3 := hW.1.2.2.2; have hq4 := hW.2.1; have hq5 := hW.2.2.1; have hq6 := hW.2.2.2.1; have hq7 := hW.2.2.2.2; first | (go_simp; done) | (go_simp; with_reducible rfl) | (go_simp; rfl)⟩) hHeld ?_
              try simp only [Act.put, List.setIfInBounds_toArray, List.set_cons_zero, List.set_cons_succ]
              refine take_at (i := 10) (v := _) 147 rfl rfl (by kernel_rfl) (by kernel_rfl) (by kernel_rfl) (fun _ _ _ h => h) (Or.inl ⟨by rfl, fun w' hW => by have hq0 := hW.1.1; have hq1 := hW.1.2.1; have hq2 := hW.1.2.2.1; have hq3 := hW.1.2.2.2; have hq4 := hW.2.1; have hq5 := hW.2.2.1; have hq6 := hW.2.2.2.1; have hq7 := hW.2.2.2.2; first | (go_simp; done) | (go_simp; with_reducible rfl) | (go_simp; rfl)⟩) hHeld ?_
              try simp only [Act.put, List.setIfInBounds_toArray, List.set_cons_zero, List.set_cons_succ]
              refine take_at (i := 11) (v := _) 148 rfl rfl (by kernel_rfl) (by kernel_rfl) (by kernel_rfl) (fun _ _ _ h => h) (Or.inl ⟨by rfl, fun w' hW => by have hq0 := hW.1.1; have hq1 := hW.1.2.1; have hq2 := hW.1.2.2.1; have hq3 := hW.1.2.2.2; have hq4 := hW.2.1; have hq5 := hW.2.2.1; have hq6 := hW.2.2.2.1; have hq7 := hW.2.2.2.2; first | (go_simp; done) | (go_simp; with_reducible rfl) | (go_simp; rfl)⟩) hHeld ?_
              try simp only [Act.put, List.setIfInBounds_toArray, List.set_cons_zero, List.set_cons_succ]
              refine take_at (i := 12) (v := _) 149 rfl rfl (by kernel_rfl) (by kernel_rfl) (by kernel_rfl) (fun _ _ _ h => h) (Or.inl ⟨by rfl, fun w' hW => by have hq0 := hW.1.1; have hq1 := hW.1.2.1; have hq2 := hW.1.2.2.1; have hq3 := hW.1.2.2.2; have hq4 := hW.2.1; have hq5 := hW.2.2.1; have hq6 := hW.2.2.2.1; have hq7 := hW.2.2.2.2; first | (go_simp; done) | (go_simp; with_reducible rfl) | (go_simp; rfl)⟩) hHeld ?_
              try simp only [Act.put, List.setIfInBounds_toArray, List.set_cons_zero, List.set_cons_succ]
              refine take_at (i := 13) (v := _) 150 rfl rfl (by kernel_rfl) (by kernel_rfl) (by kernel_rfl) (fun _ _ _ h => h) (Or.inl ⟨by rfl, fun w' hW => by have hq0 := hW.1.1; have hq1 := hW.1.2.1; have hq2 := hW.1.2.2.1; have hq3 := hW.1.2.2.2; have hq4 := hW.2.1; have hq5 := hW.2.2.1; have hq6 := hW.2.2.2.1; have hq7 := hW.2.2.2.2; first | (go_simp; done) | (go_simp; with_reducible rfl) | (go_simp; rfl)⟩) hHeld ?_
              try simp only [Act.put, List.setIfInBounds_toArray, List.set_cons_zero, List.set_cons_succ]
              refine take_at (i := 14) (v := _) 151 rfl rfl (by kernel_rfl) (by kernel_rfl) (by kernel_rfl) (fun _ _ _ h => h) (Or.inl ⟨by rfl, fun w' hW => by have hq0 := hW.1.1; have hq1 := hW.1.2.1; have hq2 := hW.1.2.2.1; have hq3 := hW.1.2.2.2; have hq4 := hW.2.1; have hq5 := hW.2.2.1; have hq6 := hW.2.2.2.1; have hq7 := hW.2.2.2.2; first | (go_simp; done) | (go_simp; with_reducible rfl) | (go_simp; rfl)⟩) hHeld ?_
              try simp only [Act.put, List.setIfInBounds_toArray, List.set_cons_zero, List.set_cons_succ]
              refine take_at (i := 15) (v := _) 152 rfl rfl (by kernel_rfl) (by kernel_rfl) (by kernel_rfl) (fun _ _ _ h => h) (Or.inl ⟨by rfl, fun w' hW => by have hq0 := hW.1.1; have hq1 := hW.1.2.1; have hq2 := hW.1.2.2.1; have hq3 := hW.1.2.2.2; have hq4 := hW.2.1; have hq5 := hW.2.2.1; have hq6 := hW.2.2.2.1; have hq7 := hW.2.2.2.2; first | (go_simp; done) | (go_simp; with_reducible rfl) | (go_simp; rfl)⟩) hHeld ?_
              try simp only [Act.put, List.setIfInBounds_toArray, List.set_cons_zero, List.set_cons_succ]
              refine take_at (i := 16) (v := _) 153 rfl rfl (by kernel_rfl) (by kernel_rfl) (by kernel_rfl) (fun _ _ _ h => h) (Or.inl ⟨by rfl, fun w' hW => by have hq0 := hW.1.1; have hq1 := hW.1.2.1; have hq2 := hW.1.2.2.1; have hq3 := hW.1.2.2.2; have hq4 := hW.2.1; have hq5 := hW.2.2.1; have hq6 := hW.2.2.2.1; have hq7 := hW.2.2.2.2; first | (go_simp; done) | (go_simp; with_reducible rfl) | (go_simp; rfl)⟩) hHeld ?_
              try simp only [Act.put, List.setIfInBounds_toArray, List.set_cons_zero, List.set_cons_succ]
              have HA3 := Aside0.mk ((HA2.out.below (Below.refl _ _).drew).sub (L' := []) (fun p hp => by cases hp))
              refine wpAnyH_done (by kernel_rfl) ?_ _
              clear hHeld
              clear HA2 s0 s1 s2 s3 c0 c1 c2 c3'
              generalize w6.drew = w7 at HA3 ⊢
              go_upto_region 29 with fail
              refine wp_region_held_drew (S := fun w' => Below W.heap.size W w') (by kernel_rfl) HA3.out.aw.be.drew (fun hHeld => ?_)
              refine take_at (i := 0) (v := _) 154 rfl rfl (by kernel_rfl) (by kernel_rfl) (by kernel_rfl) (fun _ _ _ h => h) (Or.inl ⟨by rfl, fun w' hW => by first | (go_simp; done) | (go_simp; with_reducible rfl) | (go_simp; rfl)⟩) hHeld ?_
              try simp only [Act.put, List.setIfInBounds_toArray, List.set_cons_zero, List.set_cons_succ]
              refine take_at (i := 1) (v := _) 155 rfl rfl (by kernel_rfl) (by kernel_rfl) (by kernel_rfl) (fun _ _ _ h => h) (Or.inl ⟨by rfl, fun w' hW => by first | (go_simp; done) | (go_simp; with_reducible rfl) | (go_simp; rfl)⟩) hHeld ?_
              try simp only [Act.put, List.setIfInBounds_toArray, List.set_cons_zero, List.set_cons_succ]
              refine take_at (i := 2) (v := _) 156 rfl rfl (by kernel_rfl) (by kernel_rfl) (by kernel_rfl) (fun _ _ _ h => h) (Or.inl ⟨by rfl, fun w' hW => by first | (go_simp; done) | (go_simp; with_reducible rfl) | (go_simp; rfl)⟩) hHeld ?_
              try simp only [Act.put, List.setIfInBounds_toArray, List.set_cons_zero, List.set_cons_succ]
              refine take_at (i := 3) (v := _) 157 rfl rfl (by kernel_rfl) (by kernel_rfl) (by kernel_rfl) (fun _ _ _ h => h) (Or.inl ⟨by rfl, fun w' hW => by first | (go_simp; done) | (go_simp; with_reducible rfl) | (go_simp; rfl)⟩) hHeld ?_
              try simp only [Act.put, List.setIfInBounds_toArray, List.set_cons_zero, List.set_cons_succ]
              have HA4 := Aside0.mk (HA3.out.below (Below.refl _ _).drew)
              refine take_at (i := 4) (v := _) 11 rfl rfl (by kernel_rfl) (by kernel_rfl) (by kernel_rfl) (fun _ _ _ h => h) (Or.inl ⟨by rfl, fun w' hW => by first | (go_simp; done) | (go_simp; with_reducible rfl) | (go_simp; rfl)⟩) hHeld ?_
              try simp only [Act.put, List.setIfInBounds_toArray, List.set_cons_zero, List.set_cons_succ]
              refine take_at (i := 5) (v := _) 12 rfl rfl (by kernel_rfl) (by kernel_rfl) (by kernel_rfl) (fun _ _ _ h => h) (Or.inl ⟨by rfl, fun w' hW => by first | (go_simp; done) | (go_simp; with_reducible rfl) | (go_simp; rfl)⟩) hHeld ?_
              try simp only [Act.put, List.setIfInBounds_toArray, List.set_cons_zero, List.set_cons_succ]
              refine wpAnyH_done (by kernel_rfl) ?_ _
              clear hHeld
              clear y1 y2 y3 y4 y5 y6 y7
              have HA5 := Aside0.mk HA4.out.tails
              have hTS : (tsOf a').length = T - 1 := by rw [← HT.out]; rfl
              have hSS : (ssOf a').length = T - 1 := by have h5 := HLN.out.2; rw [HT.out] at h5; rw [← h5]; rfl
              rw [hTS, hSS] at HA5
              go_wp2_with fail
              go_roundw
              case rel => exact ⟨j + 1, HJ.out, (by first | rfl | (rw [hw]; rfl)), ⟨⟨_, HA5.out⟩⟩⟩
              case measure => first | exact HH.out | (simp only [hw]; exact HH.out)
          · skip
            by_cases hk8 : xx.f0 = 8
            · have k1 : (xx.f0 == 1) = false := by simp [hk1]
              have k2 : (xx.f0 == 2) = false := by simp [hk2]
              have k6 : (xx.f0 == 6) = false := by simp [hk6]
              have k8 : (xx.f0 == 8) = true := by simp [hk8]
              clear hk1 hk2 hk6 hk8
              by_cases hC : a.C = []
              · obtain ⟨t1, t2, t3⟩ := q_reset hC
                have HRS := Aside0.mk t1
                have HTS := Aside0.mk (And.intro t2 t3)
                clear t1 t2 t3 hC
                go_wp2_with (go_at_call 18; refine (A_reset HA.out.aw.ln (by have := HK.out; omega)).mono ?_; rewrite [HRS.out]; rintro e w5 ⟨rA, rc, rfl, _, _, _, hl5, hf5⟩; have HA2 := Aside0.mk (HA.out.call hl5 hf5).nil; clear hl5 hf5)
                go_roundw
                case rel => exact ⟨j + 1, HJ.out, (by first | rfl | (rw [hw]; rfl)), ⟨⟨_, by rw [(HTS.out).1, (HTS.out).2]; exact HA2.out⟩⟩⟩
                case measure => first | exact HH.out | (simp only [hw]; exact HH.out)
              · have HRS := Aside0.mk (q_reset0 hC)
                clear hC
                go_wp2_with (go_at_call 18; refine (A_reset HA.out.aw.ln (by have := HK.out; omega)).mono ?_; rewrite [HRS.out]; rintro e w5 ⟨rA, rc, rfl, _, _, _, hl5, hf5⟩; have HA2 := Aside0.mk (HA.out.call hl5 hf5); clear hl5 hf5)
                go_roundw
                case rel => exact ⟨j + 1, HJ.out, (by first | rfl | (rw [hw]; rfl)), ⟨⟨_, HA2.out⟩⟩⟩
                case measure => first | exact HH.out | (simp only [hw]; exact HH.out)
            · skip
              by_cases hk7 : xx.f0 = 7
              · obtain ⟨rn, rg, rb, er, hcl⟩ := retR_sh a xx.f1.f0 xx.f1.f1
                have HCL := Aside0.mk hcl
                clear hcl
                have k1 : (xx.f0 == 1) = false := by simp [hk1]
                have k2 : (xx.f0 == 2) = false := by simp [hk2]
                have k6 : (xx.f0 == 6) = false := by simp [hk6]
                have k8 : (xx.f0 == 8) = false := by simp [hk8]
                have k7 : (xx.f0 == 7) = true := by simp [hk7]
                clear hk1 hk2 hk6 hk8 hk7
                go_wp2_with (go_at_call 19; refine (A_ret HA.out.aw.ln (by have := HK.out; omega) xx.f1.f0 xx.f1.f1 HQ.out).mono ?_; rewrite [HCL.out]; rintro e w5 ⟨rfl, hl5, hf5⟩; have HA2 := Aside0.mk (HA.out.call hl5 hf5); clear hl5 hf5)
                go_roundw
                case rel => exact ⟨j + 1, HJ.out, (by first | rfl | (rw [hw]; rfl)), ⟨⟨_, by rw [(q_ret a xx.f1.f0 xx.f1.f1).1, (q_ret a xx.f1.f0 xx.f1.f1).2]; exact HA2.out⟩⟩⟩
                case measure => first | exact HH.out | (simp only [hw]; exact HH.out)
              · skip
                have k1 : (xx.f0 == 1) = false := by simp [hk1]
                have k2 : (xx.f0 == 2) = false := by simp [hk2]
                have k6 : (xx.f0 == 6) = false := by simp [hk6]
                have k8 : (xx.f0 == 8) = false := by simp [hk8]
                have k7 : (xx.f0 == 7) = false := by simp [hk7]
                clear hk1 hk2 hk6 hk8 hk7
                clear q1 q2
                go_upto_region 12 with fail
                clear q0
                refine wp_region_held_drew (S := fun w' => Below W.heap.size W w') (by kernel_rfl) HA.out.aw.be.drew (fun hHeld => ?_)
                refine take_at (i := 0) (v := _) 56 rfl rfl (by kernel_rfl) (by kernel_rfl) (by kernel_rfl) (fun _ _ _ h => h) (Or.inl ⟨by rfl, fun w' hW => by have hq0 := pw_cell_below hW P1.out; have hq1 := pw_cell_below hW P2.out; have hq2 := pw_cell_below hW P5.out; have hq3 := pw_cell_below hW P6.out; first | (go_simp; done) | (go_simp; with_reducible rfl) | (go_simp; rfl)⟩) hHeld ?_
                try simp only [Act.put, List.setIfInBounds_toArray, List.set_cons_zero, List.set_cons_succ]
                refine take_at (i := 1) (v := _) 57 rfl rfl (by kernel_rfl) (by kernel_rfl) (by kernel_rfl) (fun _ _ _ h => h) (Or.inl ⟨by rfl, fun w' hW => by have hq0 := pw_cell_below hW P1.out; have hq1 := pw_cell_below hW P2.out; have hq2 := pw_cell_below hW P5.out; have hq3 := pw_cell_below hW P6.out; first | (go_simp; done) | (go_simp; with_reducible rfl) | (go_simp; rfl)⟩) hHeld ?_
                try simp only [Act.put, List.setIfInBounds_toArray, List.set_cons_zero, List.set_cons_succ]
                refine take_at (i := 2) (v := _) 58 rfl rfl (by kernel_rfl) (by kernel_rfl) (by kernel_rfl) (fun _ _ _ h => h) (Or.inl ⟨by rfl, fun w' hW => by have hq0 := pw_cell_below hW P1.out; have hq1 := pw_cell_below hW P2.out; have hq2 := pw_cell_below hW P5.out; have hq3 := pw_cell_below hW P6.out; first | (go_simp; done) | (go_simp; with_reducible rfl) | (go_simp; rfl)⟩) hHeld ?_
                try simp only [Act.put, List.setIfInBounds_toArray, List.set_cons_zero, List.set_cons_succ]
                refine take_at (i := 3) (v := _) 59 rfl rfl (by kernel_rfl) (by kernel_rfl) (by kernel_rfl) (fun _ _ _ h => h) (Or.inl ⟨by rfl, fun w' hW => by have hq0 := pw_cell_below hW P1.out; have hq1 := pw_cell_below hW P2.out; have hq2 := pw_cell_below hW P5.out; have hq3 := pw_cell_below hW P6.out; first | (go_simp; done) | (go_simp; with_reducible rfl) | (go_simp; rfl)⟩) hHeld ?_
                try simp only [Act.put, List.setIfInBounds_toArray, List.set_cons_zero, List.set_cons_succ]
                refine take_at (i := 4) (v := _) 60 rfl rfl (by kernel_rfl) (by kernel_rfl) (by kernel_rfl) (fun _ _ _ h => h) (Or.inl ⟨by rfl, fun w' hW => by have hq0 := pw_cell_below hW P1.out; have hq1 := pw_cell_below hW P2.out; have hq2 := pw_cell_below hW P5.out; have hq3 := pw_cell_below hW P6.out; first | (go_simp; done) | (go_simp; with_reducible rfl) | (go_simp; rfl)⟩) hHeld ?_
                try simp only [Act.put, List.setIfInBounds_toArray, List.set_cons_zero, List.set_cons_succ]
                refine take_at (i := 5) (v := _) 61 rfl rfl (by kernel_rfl) (by kernel_rfl) (by kernel_rfl) (fun _ _ _ h => h) (Or.inl ⟨by rfl, fun w' hW => by have hq0 := pw_cell_below hW P1.out; have hq1 := pw_cell_below hW P2.out; have hq2 := pw_cell_below hW P5.out; have hq3 := pw_cell_below hW P6.out; first | (go_simp; done) | (go_simp; with_reducible rfl) | (go_simp; rfl)⟩) hHeld ?_
                try simp only [Act.put, List.setIfInBounds_toArray, List.set_cons_zero, List.set_cons_succ]
                refine take_at (i := 6) (v := _) 62 rfl rfl (by kernel_rfl) (by kernel_rfl) (by kernel_rfl) (fun _ _ _ h => h) (Or.inl ⟨by rfl, fun w' hW => by have hq0 := pw_cell_below hW P1.out; have hq1 := pw_cell_below hW P2.out; have hq2 := pw_cell_below hW P5.out; have hq3 := pw_cell_below hW P6.out; first | (go_simp; done) | (go_simp; with_reducible rfl) | (go_simp; rfl)⟩) hHeld ?_
                try simp only [Act.put, List.setIfInBounds_toArray, List.set_cons_zero, List.set_cons_succ]
                refine take_at (i := 7) (v := _) 63 rfl rfl (by kernel_rfl) (by kernel_rfl) (by kernel_rfl) (fun _ _ _ h => h) (Or.inl ⟨by rfl, fun w' hW => by have hq0 := pw_cell_below hW P1.out; have hq1 := pw_cell_below hW P2.out; have hq2 := pw_cell_below hW P5.out; have hq3 := pw_cell_below hW P6.out; first | (go_simp; done) | (go_simp; with_reducible rfl) | (go_simp; rfl)⟩) hHeld ?_
                try simp only [Act.put, List.setIfInBounds_toArray, List.set_cons_zero, List.set_cons_succ]
                refine take_at (i := 8) (v := _) 64 rfl rfl (by kernel_rfl) (by kernel_rfl) (by kernel_rfl) (fun _ _ _ h => h) (Or.inl ⟨by rfl, fun w' hW => by have hq0 := pw_cell_below hW P1.out; have hq1 := pw_cell_below hW P2.out; have hq2 := pw_cell_below hW P5.out; have hq3 := pw_cell_below hW P6.out; first | (go_simp; done) | (go_simp; with_reducible rfl) | (go_simp; rfl)⟩) hHeld ?_
                try simp only [Act.put, List.setIfInBounds_toArray, List.set_cons_zero, List.set_cons_succ]
                refine take_at (i := 9) (v := _) 65 rfl rfl (by kernel_rfl) (by kernel_rfl) (by kernel_rfl) (fun _ _ _ h => h) (Or.inl ⟨by rfl, fun w' hW => by have hq0 := pw_cell_below hW P1.out; have hq1 := pw_cell_below hW P2.out; have hq2 := pw_cell_below hW P5.out; have hq3 := pw_cell_below hW P6.out; first | (go_simp; done) | (go_simp; with_reducible rfl) | (go_simp; rfl)⟩) hHeld ?_
                try simp only [Act.put, List.setIfInBounds_toArray, List.set_cons_zero, List.set_cons_succ]
                refine take_at (i := 10) (v := _) 66 rfl rfl (by kernel_rfl) (by kernel_rfl) (by kernel_rfl) (fun _ _ _ h => h) (Or.inl ⟨by rfl, fun w' hW => by have hq0 := pw_cell_below hW P1.out; have hq1 := pw_cell_below hW P2.out; have hq2 := pw_cell_below hW P5.out; have hq3 := pw_cell_below hW P6.out; first | (go_simp; done) | (go_simp; with_reducible rfl) | (go_simp; rfl)⟩) hHeld ?_
                try simp only [Act.put, List.setIfInBounds_toArray, List.set_cons_zero, List.set_cons_succ]
                have HA2 := Aside0.mk (HA.out.below (Below.refl _ _).drew)
                clear hHeld HA
                generalize wr.drew = w5 at HA2 ⊢
                refine wpAnyH_ready (rs := [11]) (by kernel_rfl) (by simp) ?_
                refine AllReadyH.cons rfl (fun K hK => ?_) AllReadyH.nil
                go_simp
                go_wp2_with (go_at_call 20; refine (A_pub HA2.out.aw.ln (by have := HK.out; omega) xx.f1.f0 xx.f1.f1 xx.f3.f0 xx.f3.f1 HQ.out).mono ?_; rintro e w6 ⟨rfl, hl6, hf6⟩; have HA3 := Aside0.mk (HA2.out.call hl6 hf6); clear hl6 hf6 HA2)
                refine hK.out _ _ HA3.out.aw.be (fun hHeld => ?_)
                clear hK K
                try simp only [Act.put, List.setIfInBounds_toArray, List.set_cons_zero, List.set_cons_succ]
                refine wpAnyH_done (by kernel_rfl) ?_ _
                clear hHeld
                go_wp2_with fail
                go_roundw
                case rel => exact ⟨j + 1, HJ.out, (by first | rfl | (rw [hw]; rfl)), ⟨⟨_, by rw [(q_pub a xx.f1.f0 xx.f1.f1 xx.f3.f0 xx.f3.f1).1, (q_pub a xx.f1.f0 xx.f1.f1 xx.f3.f0 xx.f3.f1).2]; exact HA3.out⟩⟩⟩
                case measure => first | exact HH.out | (simp only [hw]; exact HH.out)
    · obtain ⟨a, hA⟩ := HI.out
      have HBE := Aside0.mk hA.aw.be
      clear hA HI
      by_cases hl : j < l3.length
      · have d1 : decide ((j : Int) < (l3.length : Int)) = true := decide_eq_true (by omega)
        have d1' : decide (j < l3.length) = true := decide_eq_true hl
        have d2 : decide ((j : Int) < 60) = false := decide_eq_false (by omega)
        have d2' : decide (j < 60) = false := decide_eq_false (by omega)
        clear hgo hl
        go_wp2
        go_ret
        exact ⟨rfl, HBE.out⟩
      · have d1 : decide ((j : Int) < (l3.length : Int)) = false := decide_eq_false (by omega)
        have d1' : decide (j < l3.length) = false := decide_eq_false hl
        clear hgo hl
        go_wp2
        go_ret
        exact ⟨rfl, HBE.out⟩
end Go.Proofs.Ytglekbbdbnpohaa.QLn
