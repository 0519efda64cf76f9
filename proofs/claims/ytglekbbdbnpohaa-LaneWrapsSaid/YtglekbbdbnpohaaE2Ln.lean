/- Lane: LaneWraps: the walk. Written by a program of this repo (tools/gen_lwraps.py). -/
import Derived.Test.YtglekbbdbnpohaaD2Ln
namespace Go.Proofs.Ytglekbbdbnpohaa.QLn
open Go.RowKit Go.Proofs.YtglekbbdbnpohaaW.PrintWords Go.Proofs.YtglekbbdbnpohaaW.PrintLast Go.Proofs.YtglekbbdbnpohaaW.PrintMore
set_option linter.unusedVariables false
set_option linter.unusedSimpArgs false
theorem Aw2.box {w0 w : World} {b m b' m' k : Nat} {a a' : AS} {L L' : List (Nat × Obj)} (h : Aw2 w0 b m a b' m' a' k L w) (g : Nat) (C : Array Value) (t : TypeId) (hg : (g, Obj.cells C t) ∈ L) (h0 : w0.heap.size ≤ g) (o : Nat) (vs : List Value)
    (hL : ∀ p ∈ L', p = (g, Obj.cells (QLn.setAll C o vs) t) ∨ (p ∈ L ∧ p.1 ≠ g)) : Aw2 w0 b m a b' m' a' k L' (w.setCells g o vs) := by
  obtain ⟨h1, h2, h3⟩ := h.obj _ hg
  refine ⟨?_, ?_, below_setCells h0 vs o w h.be, h.lo, h.ne, fun p hp => ?_⟩
  · obtain ⟨s, hs, hm, hr⟩ := h.l1
    exact ⟨s, hs.of (far_setCells (Ne.symm h2.1) vs o w) (far_setCells (by rw [hm]; exact Ne.symm h2.2) vs o w), hm, hr⟩
  · obtain ⟨s, hs, hm, hr⟩ := h.l2
    exact ⟨s, hs.of (far_setCells (Ne.symm h3.1) vs o w) (far_setCells (by rw [hm]; exact Ne.symm h3.2) vs o w), hm, hr⟩
  · rcases hL p hp with rfl | ⟨hp, hne⟩
    · exact ⟨blk_setCells vs o C w h1, h2, h3⟩
    · exact ⟨(far_setCells hne vs o w).trans (h.obj p hp).1, (h.obj p hp).2⟩
/-- What the loop of LaneWraps keeps. -/
def WI (W : World) (b m b' m' : Nat) (st : Int) (i : Nat) (wr : World) : Prop := ∃ a, a.start = 0 ∧ Aw2 W b m a b' m' (mv st a) (2 * i) [] wr
set_option maxRecDepth 100000 in
set_option maxHeartbeats 8000000 in
theorem LaneWraps_hand (a0 : Int) (a1 : Bool) (a2 : Int) (A3 : Option Addr) (c3 : Nat) (l3 : List S40) (W : World) (hr3 : Kd.C k40 W A3 l3.length l3) (hc3 : l3.length ≤ c3) (h0 : (Lit.int .u8 a0).wf = true) (_ : True) (h2 : (Lit.int .u64 a2).wf = true) (h3 : l3.length * 56 ≤ 140737488351232 ∧ ∀ x ∈ l3, OpOk x) :
    Calls Try.prog 7 #[.int .u8 a0, .bool a1, .int .u64 a2, .slice A3 l3.length c3] W fun e w' => e = .returned (.bool true) ∧ Below W.heap.size W w' := by
  have HR := Aside0.mk hr3
  have H1 := Aside0.mk (wf_u64 h2)
  have H2 := Aside0.mk h3.2
  have H20 := Aside0.mk h3.1
  have hb0 := wf_u8 h0
  have e1 : IntKind.i64.wrap a0 = a0 := by rw [IntKind.wrap_i64]; omega
  have e2 : a0.tmod 64 = a0 % 64 := by rw [Int.tmod_eq_emod_of_nonneg hb0.1]
  have e3 : wrap64 (a0 % 64 + 1) = a0 % 64 + 1 := by unfold wrap64; omega
  obtain ⟨n, hn⟩ : ∃ n, a0 % 64 + 1 = n := ⟨_, rfl⟩
  have hn1 : 1 ≤ n := by omega
  have hn2 : n ≤ 64 := by omega
  rw [hn] at e3
  clear hr3 h2 h3 h0
  go_enter Try.func7, Try.ntmps7
  go_upto_region 4 with (go_at_call 9; refine (awake_calls _).mono ?_; rintro e w1 ⟨rfl, hb1⟩; have HB1 := Aside0.mk hb1; clear hb1)
  go_upto_region 5 with (go_at_call 10; refine (A_new n a1 0 hn1 hn2 (by unfold U64; omega) _).mono ?_; rintro e w2 ⟨rfl, hb2, hl2⟩; have HB2 := Aside0.mk (And.intro hb2 hl2); clear hb2 hl2)
  go_upto_region 6 with (go_at_call 10; refine (A_new n a1 a2 hn1 hn2 H1.out _).mono ?_; rintro e w3 ⟨rfl, hb3, hl3⟩; have HB3 := Aside0.mk (And.intro hb3 hl3); clear hb3 hl3)
  have HA : Aside0 (Aw2 W (w1.heap.size + 1) w1.heap.size (newA n.toNat a1 0) (w2.heap.size + 1) w2.heap.size (newA n.toNat a1 a2) 0 [] w3) := by
    have h1 := HB1.out
    have h2 := HB2.out
    have h3 := HB3.out
    have hlt := h2.2.lt
    have hs1 := h1.size
    have hs2 := h2.1.size
    exact ⟨⟨h2.2.below h3.1, h3.2, (h1.trans (h2.1.mono hs1)).trans (h3.1.mono (Nat.le_trans hs1 hs2)), by omega, by omega, by simp⟩⟩
  have HOI : Aside0 (WI W (w1.heap.size + 1) w1.heap.size (w2.heap.size + 1) w2.heap.size a2 0 w3) := ⟨_, rfl, HA.out⟩
  clear HA HB1 HB2 HB3
  generalize w2.heap.size = m' at HOI ⊢
  generalize w1.heap.size = m at HOI ⊢
  generalize m' + 1 = b' at HOI ⊢
  generalize m + 1 = b at HOI ⊢
  go_wp2
  go_loopw [14] (fun i wr => ∃ j : Nat, j ≤ 60 ∧ i = .int .i64 (j : Int) ∧ Aside0 (WI W b m b' m' a2 j wr)) (fun i _ => 60 - (intOf i).toNat)
  case atStart => exact ⟨0, by omega, rfl, HOI⟩
  case round =>
    clear HOI
    obtain ⟨j, hj60, rfl, HI⟩ := hrel
    obtain ⟨a, hs0, hA⟩ := HI.out
    have HA := Aside0.mk hA
    have HS := Aside0.mk hs0
    clear hA hs0 HI
    by_cases hgo : j < l3.length ∧ j < 60
    · have d1 : decide ((j : Int) < (l3.length : Int)) = true := decide_eq_true (by omega)
      have d1' : decide (j < l3.length) = true := decide_eq_true hgo.1
      have d2 : decide ((j : Int) < 60) = true := decide_eq_true (by omega)
      have d2' : decide (j < 60) = true := decide_eq_true hgo.2
      have HJ := Aside0.mk hgo
      have hx0 : (0 : Int) ≤ (j : Int) := by omega
      have hx1 : (j : Int) < (l3.length : Int) := by omega
      obtain ⟨ad, rfl, q0, q1, q2, q3, q4, q5, q6⟩ := at_T40 (Kd.C_below HR.out HA.out.be) (j : Int) hx0 hx1
      have HOK := Aside0.mk (H2.out _ (rd_mem hgo.1))
      obtain ⟨xx, hxx⟩ : ∃ xx, rd_T40 l3 (j : Int) = xx := ⟨_, rfl⟩
      rw [hxx, Int.toNat_natCast] at q0 q1 q2 q3 q4 q5 q6
      rw [hxx] at HOK
      have HQ : Aside0 (U64 xx.f1.f0) := ⟨wf_u64 HOK.out.2.1.1⟩
      have hw : wrap64 ((j : Int) + 1) = (j : Int) + 1 := by unfold wrap64; omega
      have HH : Aside0 (60 - ((j : Int) + 1).toNat < 60 - ((j : Int)).toNat) := ⟨by omega⟩
      have HK : Aside0 (2 * j + 2 < 1000) := ⟨by omega⟩
      clear hxx hgo
      go_upto_region 12 with fail
      have HA1 := Aside0.mk (HA.out.alloc (.cells (aO xx) 40))
      have HG := Aside0.mk HA.out.be.size
      clear q0 q1 q2 q3 q4 q5 q6 HA hx0 hx1 d1 d1' d2 d2'
      generalize wr.alloc (.cells (aO xx) 40) = w4 at HA1 ⊢
      generalize wr.heap.size = g at HA1 HG ⊢
      have p0 : w4.cell? ⟨g, 0, none⟩ = some (.int .i64 xx.f0) := (HA1.out.ptr List.mem_cons_self 0).1
      have p1 : w4.cell? ⟨g, 1, none⟩ = some (.int .u64 xx.f1.f0) := (HA1.out.ptr List.mem_cons_self 1).1
      have p2 : w4.cell? ⟨g, 2, none⟩ = some (.int .u64 xx.f1.f1) := (HA1.out.ptr List.mem_cons_self 2).1
      have p3 : w4.cell? ⟨g, 3, none⟩ = some (.int .i64 xx.f2.f0) := (HA1.out.ptr List.mem_cons_self 3).1
      have p4 : w4.cell? ⟨g, 4, none⟩ = some (.int .u64 xx.f2.f1) := (HA1.out.ptr List.mem_cons_self 4).1
      have p5 : w4.cell? ⟨g, 5, none⟩ = some (.int .i64 xx.f3.f0) := (HA1.out.ptr List.mem_cons_self 5).1
      have p6 : w4.cell? ⟨g, 6, none⟩ = some (.int .i64 xx.f3.f1) := (HA1.out.ptr List.mem_cons_self 6).1
      go_upto_region 13 with fail
      have HA2 := Aside0.mk (HA1.out.alloc (.cells (aO xx) 40))
      have HG2 := Aside0.mk HA1.out.be.size
      have HGL : Aside0 (g ≠ w4.heap.size) := ⟨by have h := (Array.getElem?_eq_some_iff.1 (HA1.out.obj (g, .cells (aO xx) 40) (by simp)).1).1; omega⟩
      clear p0 p1 p2 p3 p4 p5 p6 HA1
      generalize w4.alloc (.cells (aO xx) 40) = w5 at HA2 ⊢
      generalize w4.heap.size = g2 at HA2 HG2 HGL ⊢
      have p1 : w5.cell? ⟨g, 1, none⟩ = some (.int .u64 xx.f1.f0) := (HA2.out.ptr (g := g) (C := aO xx) (t := 40) (by simp) 1).1
      have p2 : w5.cell? ⟨g2, 1, none⟩ = some (.int .u64 xx.f1.f0) := (HA2.out.ptr (g := g2) (C := aO xx) (t := 40) (by simp) 1).1
      have p3 : w5.frozen? ⟨g2, 1, none⟩ = false := (HA2.out.ptr (g := g2) (C := aO xx) (t := 40) (by simp) 1).2
      go_upto_region 14 with fail
      obtain ⟨yy, hyy⟩ : ∃ yy : S40, yy = ⟨xx.f0, ⟨IntKind.u64.wrap (xx.f1.f0 + a2), xx.f1.f1⟩, xx.f2, xx.f3⟩ := ⟨_, rfl⟩
      have HY : Aside0 (yy.f1.f0 = mq a2 xx.f1.f0 ∧ yy.f1.f1 = xx.f1.f1) := ⟨by rw [hyy]; exact ⟨rfl, rfl⟩⟩
      have HA3 : Aside0 (Aw2 W b m a b' m' (mv a2 a) (2 * j) [(g, .cells (aO xx) 40), (g2, .cells (aO yy) 40)] (w5.setCell ⟨g2, 1, none⟩ (.int .u64 (IntKind.u64.wrap (xx.f1.f0 + a2))))) := by
        refine ⟨(HA2.out.box g2 (aO xx) 40 (by simp) HG2.out 1 [.int .u64 (IntKind.u64.wrap (xx.f1.f0 + a2))] (fun p hp => ?_))⟩
        simp only [List.mem_cons, List.mem_nil_iff, or_false] at hp
        rcases hp with rfl | rfl
        · exact Or.inr ⟨by simp, HGL.out⟩
        · refine Or.inl ?_
          rw [hyy]
          rfl
      clear p1 p2 p3 HA2 hyy
      generalize w5.setCell ⟨g2, 1, none⟩ (.int .u64 (IntKind.u64.wrap (xx.f1.f0 + a2))) = w6 at HA3 ⊢
      have r0 : w6.cell? ⟨g, 0, none⟩ = some (.int .i64 (xx.f0)) := (HA3.out.ptr (g := g) (C := aO xx) (t := 40) (by simp) 0).1
      have r1 : w6.cell? ⟨g, 1, none⟩ = some (.int .u64 (xx.f1.f0)) := (HA3.out.ptr (g := g) (C := aO xx) (t := 40) (by simp) 1).1
      have r2 : w6.cell? ⟨g, 2, none⟩ = some (.int .u64 (xx.f1.f1)) := (HA3.out.ptr (g := g) (C := aO xx) (t := 40) (by simp) 2).1
      have r3 : w6.cell? ⟨g, 3, none⟩ = some (.int .i64 (xx.f2.f0)) := (HA3.out.ptr (g := g) (C := aO xx) (t := 40) (by simp) 3).1
      have r4 : w6.cell? ⟨g, 4, none⟩ = some (.int .u64 (xx.f2.f1)) := (HA3.out.ptr (g := g) (C := aO xx) (t := 40) (by simp) 4).1
      have r5 : w6.cell? ⟨g, 5, none⟩ = some (.int .i64 (xx.f3.f0)) := (HA3.out.ptr (g := g) (C := aO xx) (t := 40) (by simp) 5).1
      have r6 : w6.cell? ⟨g, 6, none⟩ = some (.int .i64 (xx.f3.f1)) := (HA3.out.ptr (g := g) (C := aO xx) (t := 40) (by simp) 6).1
      have r7 : w6.cell? ⟨g2, 0, none⟩ = some (.int .i64 (yy.f0)) := (HA3.out.ptr (g := g2) (C := aO yy) (t := 40) (by simp) 0).1
      have r8 : w6.cell? ⟨g2, 1, none⟩ = some (.int .u64 (yy.f1.f0)) := (HA3.out.ptr (g := g2) (C := aO yy) (t := 40) (by simp) 1).1
      have r9 : w6.cell? ⟨g2, 2, none⟩ = some (.int .u64 (yy.f1.f1)) := (HA3.out.ptr (g := g2) (C := aO yy) (t := 40) (by simp) 2).1
      have r10 : w6.cell? ⟨g2, 3, none⟩ = some (.int .i64 (yy.f2.f0)) := (HA3.out.ptr (g := g2) (C := aO yy) (t := 40) (by simp) 3).1
      have r11 : w6.cell? ⟨g2, 4, none⟩ = some (.int .u64 (yy.f2.f1)) := (HA3.out.ptr (g := g2) (C := aO yy) (t := 40) (by simp) 4).1
      have r12 : w6.cell? ⟨g2, 5, none⟩ = some (.int .i64 (yy.f3.f0)) := (HA3.out.ptr (g := g2) (C := aO yy) (t := 40) (by simp) 5).1
      have r13 : w6.cell? ⟨g2, 6, none⟩ = some (.int .i64 (yy.f3.f1)) := (HA3.out.ptr (g := g2) (C := aO yy) (t := 40) (by simp) 6).1
      go_wp2_with (first | (go_at_call 22; refine (moved_calls a2 xx yy HQ.out HY.out HS.out _ HA3.out (by have := HK.out; omega)).mono ?_; rintro e w7 ⟨rfl, a1', hs1, hA1⟩; have HA4 := Aside0.mk hA1; have HS1 := Aside0.mk hs1; have hst : stateR a1' = aSt ((a1'.credit : Int) - (a1'.total : Int)) a1'.C.length a1'.P.length (heldN a1' false) (heldN a1' true) a1'.epoch := rfl; have HST := Aside0.mk hst; clear hst hA1 hs1 HA3; generalize ((a1'.credit : Int) - (a1'.total : Int)) = v1 at HST; generalize (a1'.C.length : Int) = v2 at HST; generalize (a1'.P.length : Int) = v3 at HST; generalize (heldN a1' false : Int) = v4 at HST; generalize (heldN a1' true : Int) = v5 at HST; generalize (a1'.epoch : Int) = v6 at HST) | (go_at_call 13; refine (A_state HA4.out.l1 (by have := HK.out; omega)).mono ?_; rewrite [HST.out]; rintro e w5 ⟨rfl, hb5⟩; have HA5 := Aside0.mk (HA4.out.below hb5); clear hb5 HA4) | (go_at_call 13; refine (A_state HA5.out.l2 (by have := HK.out; omega)).mono ?_; rewrite [show stateR (mv a2 a1') = stateR a1' from rfl, HST.out]; rintro e w6 ⟨rfl, hb6⟩; have HA6 := Aside0.mk (HA5.out.below hb6); clear hb6 HA5))
      go_roundw
      case rel => exact ⟨j + 1, by have := HJ.out; omega, by go_num, ⟨_, HS1.out, HA6.out.none.mono (Nat.le_of_eq (by omega))⟩⟩
      case measure => first | exact HH.out | (simp only [hw]; exact HH.out)
    · have hend : (decide (j < l3.length) && decide (j < 60)) = false := by simp; omega
      have d3 : ¬ ((j : Int) < (l3.length : Int) ∧ (j : Int) < 60) := by omega
      by_cases hl : j < l3.length
      · have d1 : decide ((j : Int) < (l3.length : Int)) = true := decide_eq_true (by omega)
        have d1' : decide (j < l3.length) = true := decide_eq_true hl
        have d2 : decide ((j : Int) < 60) = false := decide_eq_false (by omega)
        have d2' : decide (j < 60) = false := decide_eq_false (by omega)
        clear hend d3 hgo hl
        go_wp2
        go_ret
        exact ⟨rfl, HA.out.be⟩
      · have d1 : decide ((j : Int) < (l3.length : Int)) = false := decide_eq_false (by omega)
        have d1' : decide (j < l3.length) = false := decide_eq_false hl
        clear hend d3 hgo hl
        go_wp2
        go_ret
        exact ⟨rfl, HA.out.be⟩
end Go.Proofs.Ytglekbbdbnpohaa.QLn
