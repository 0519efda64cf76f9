/- Step: the walk of StepFew. Written by a program of this repo (tools/gen_few.py). -/
import Derived.Test.YtooddkaepkjidaaXSt
import Derived.Test.YtooddkaepkjidaaTSt
namespace Go.Proofs.Ytooddkaepkjidaa.QSt
open Go.RowKit Go.Proofs.YtooddkaepkjidaaW.PrintWords Go.Proofs.YtooddkaepkjidaaW.PrintLast Go.Proofs.YtooddkaepkjidaaW.PrintMore
set_option linter.unusedVariables false
set_option linter.unusedSimpArgs false
attribute [local go_sem] cs_off

section
variable {P : Program}
theorem run_load_any (w : World) (ad : Addr) (ty : TypeId) (cs : List Value) (d : TypeDesc) (hc : ∀ j v, cs[j]? = some v → w.cell? (ad.add j) = some v)
    (hu : P.underlying ty = some d) (hd : d.isRow = true) (hi : (P.info? ty).map (·.size) = some cs.length) : (loadVar ty ad).run P w = .ok (.agg cs.toArray) w := by
  have hl : (loadCells ad cs.length).run P w = .ok cs.toArray w := run_loadCells_list (P := P) w ad cs hc
  cases hq : P.info? ty with
  | none => simp [hq] at hi
  | some i =>
    have hs : i.size = cs.length := by simpa [hq] using hi
    have hagg : (isAgg ty).run P w = .ok true w := by
      unfold isAgg
      rw [Sem.run_bind, run_underlying hu w]
      cases d <;> simp_all
    simp [loadVar, Sem.run_bind, hagg, sizeOf, typeInfo, hq, hs, hl]
theorem load_any {ops : Array Oper} {rest : List Oper} {op : Oper} {a : Act} {w : World} {Q : Exit → Act → World → Prop} (hgd : op.guard = none) (ty : TypeId) (x : Operand) (ho : op.op = .load ty x)
    (ad : Addr) (hx : a.eval x = .pointer (some ad)) (C : Array Value) (d : TypeDesc) (hc : ∀ j v, C.toList[j]? = some v → w.cell? (ad.add j) = some v)
    (hu : P.underlying ty = some d) (hd : d.isRow = true) (hi : (P.info? ty).map (·.size) = some C.size)
    (h : wpList P ops Q rest (a.put op.dst (.agg C)) w) : wpList P ops Q (op :: rest) a w :=
  wpList_plain hgd fun _ hK => by
    unfold Oper.wp execOp
    simp only [ho, hx, Instr.loadAt, Instr.sureAddr, Sem.run_bind, Sem.run_pure, Result.andThen_ok, run_load_any w ad ty C.toList d hc hu hd (by simpa using hi)]
    exact hK _ _ h
end
theorem add_add' (a : Addr) (m n : Nat) : (a.add m).add n = a.add (m + n) := by
  unfold Addr.add
  by_cases hm : m = 0
  · subst hm; simp
  · by_cases hn : n = 0
    · subst hn; simp
    · have : m + n ≠ 0 := by omega
      simp [hm, hn, this, Nat.add_assoc]
def tOf (x : S46) : STold := ⟨⟨x.f0.f0, x.f0.f1, x.f0.f2, x.f0.f3⟩, ⟨x.f1.f0, x.f1.f1.f0, x.f1.f1.f1, x.f1.f1.f2, x.f1.f1.f3, x.f1.f1.f4, x.f1.f2, x.f1.f3, x.f1.f4, x.f1.f5.f0, x.f1.f5.f1, x.f1.f6⟩, x.f2, x.f3⟩
theorem told_at {w : World} {A : Option Addr} {l : List S46} (h : Kd.C k46 w A l.length l) (j : Nat) (hj : (j : Int) < (l.length : Int)) : ∃ ad t, A = some ad ∧ ∀ i v, (cTold t).toList[i]? = some v → w.cell? ((ad.add (j * 18)).add i) = some v := by
  obtain ⟨ad, c, e, _, hK, hc0⟩ := Kd.C_get h z46 (j : Int) (by omega) hj
  refine ⟨ad, tOf (l.getD (j : Int).toNat z46), e, fun i v hv => ?_⟩
  rw [add_add']
  have := hc0 i v (by rw [k46_open hK]; exact hv)
  rw [Int.toNat_natCast] at this
  exact this
theorem range_below {w w' : World} {b o : Nat} {cs : List Value} (hb : Below w.heap.size w w') (h : w.rangeAt b o cs) : w'.rangeAt b o cs := fun j v hv => pw_cell_below hb (h j v hv)
theorem doOp_keep (t : STold) (o : SOp) : (doOp t o).1.n = o.n ∧ (doOp t o).1.k = o.k ∧ (doOp t o).1.a = o.a ∧ (doOp t o).1.r = o.r ∧ (doOp t o).1.h = o.h ∧ (doOp t o).1.p = o.p := by
  unfold doOp foundOp
  by_cases h1 : o.nx = 1
  · simp [h1]
  by_cases h2 : o.nx = 2
  · by_cases hc : t.code = 1 <;> simp [h2, hc]
  by_cases h5 : o.nx = 5
  · by_cases hc : t.code = 1 <;> simp [h5, hc]
  by_cases h3 : o.nx = 3
  · simp [h3]
  by_cases h4 : o.nx = 4
  · simp [h4]
  · simp [h1, h2, h3, h4, h5]
theorem doOp_left (t : STold) (o : SOp) (hp : 0 ≤ placeOf o) : leftOf (doOp t o).1 + 1 ≤ leftOf o ∧ ((leftOf (doOp t o).1 == 0) = (doOp t o).2.2) ∧ 0 ≤ leftOf (doOp t o).1 ∧ leftOf o ≤ 3 := by
  obtain ⟨n, k, a, r, h, p, nx, ch, ln, sq, ep, pp⟩ := o
  unfold placeOf at hp
  dsimp only at hp
  by_cases hn : n < 1
  · simp [hn] at hp
  cases hq : okReq k a r h p with
  | false => simp [hn, hq] at hp
  | true =>
    simp only [hn, hq, if_false, if_true] at hp
    by_cases h3 : k = 3
    · subst h3
      have hx : nx = 2 ∨ nx = 3 ∨ nx = 4 := by
        unfold pl at hp
        by_cases c2 : nx = 2 <;> by_cases c3 : nx = 3 <;> by_cases c4 : nx = 4 <;> simp_all
      by_cases hc : t.code = 1 <;> rcases hx with rfl | rfl | rfl <;> simp [doOp, foundOp, leftOf, placeOf, pl, steps, hn, hq, hc]
    by_cases h4 : k = 4
    · subst h4
      have hx : nx = 5 ∨ nx = 6 := by
        unfold pl at hp
        by_cases c2 : nx = 5 <;> by_cases c3 : nx = 6 <;> simp_all
      by_cases hc : t.code = 1 <;> rcases hx with rfl | rfl <;> simp [doOp, foundOp, leftOf, placeOf, pl, steps, hn, hq, hc]
    have hx : (1 ≤ k ∧ k ≤ 9) ∧ nx = 1 := by
      unfold pl at hp
      by_cases c9 : 1 ≤ k ∧ k ≤ 9 <;> by_cases c1 : nx = 1 <;> simp_all
    obtain ⟨h9, rfl⟩ := hx
    simp [doOp, leftOf, placeOf, pl, steps, hn, hq, h3, h4, h9]
theorem doR_ok {t : STold} {o O : SOp} {R : SRep} {b : Bool} (h : doR t o = (O, R, b, 0)) : 0 ≤ placeOf o ∧ doOp t o = (O, R, b) := by
  unfold doR at h
  by_cases hp : placeOf o < 0
  · rw [if_pos hp] at h; simp at h
  · rw [if_neg hp] at h
    by_cases he : enb t.ready o = true
    · rw [if_pos he] at h
      simp only [Prod.mk.injEq, and_true] at h
      obtain ⟨h1, h2, h3⟩ := h
      exact ⟨by omega, by rw [← h1, ← h2, ← h3]⟩
    · rw [if_neg he] at h; simp at h
theorem left_nn (o : SOp) : 0 ≤ leftOf o := by
  by_cases h : 0 ≤ placeOf o
  · have := (left_pos o).2 h; omega
  · unfold leftOf; rw [if_pos (by omega)]; omega

def LN2 (b : Nat) (o : SOp) (x y : Int) (w1 : World) : Prop := w1.heap[b]? = some (.cells (cOp o) 31 (0, 0)) ∧ w1.heap[b + 1]? = some (.cells #[.int .i64 x, .int .i64 y] 48 (0, 0))
theorem LN2.start (w : World) (o : SOp) (x y : Int) : LN2 w.heap.size o x y ((w.alloc (.cells (cOp o) 31)).alloc (.cells #[.int .i64 x, .int .i64 y] 48)) :=
  ⟨by rw [heap_alloc_old _ _ (by rw [World.size_alloc]; omega)]; exact heap_alloc_new _ _, by rw [show w.heap.size + 1 = (w.alloc (.cells (cOp o) 31)).heap.size by rw [World.size_alloc]]; exact heap_alloc_new _ _⟩
theorem LN2.below {b : Nat} {o : SOp} {x y : Int} {w1 w2 : World} (h : LN2 b o x y w1) (hb : Below w1.heap.size w1 w2) : LN2 b o x y w2 := ⟨blk_below hb h.1, blk_below hb h.2⟩
/-- The statement's boxes. -/
def LF (w : World) (g : Nat) (o o0 : SOp) (x y : Int) (w1 : World) : Prop := w1.heap[w.heap.size]? = some (.cells (cOp o) 31 (0, 0)) ∧ w1.heap[w.heap.size + 1]? = some (.cells #[.int .i64 x, .int .i64 y] 48 (0, 0)) ∧ w1.heap[g]? = some (.cells (cOp o0) 31 (0, 0)) ∧ Below w.heap.size w w1 ∧ w.heap.size + 1 < g
theorem LF.below {w w1 w2 : World} {g : Nat} {o o0 : SOp} {x y : Int} (h : LF w g o o0 x y w1) (hb : Below w1.heap.size w1 w2) : LF w g o o0 x y w2 := ⟨blk_below hb h.1, blk_below hb h.2.1, blk_below hb h.2.2.1, below_step h.2.2.2.1 hb, h.2.2.2.2⟩
theorem LF.op {w w1 : World} {g : Nat} {o o0 : SOp} {x y : Int} (h : LF w g o o0 x y w1) (O : SOp) : LF w g O o0 x y (w1.setCells w.heap.size 0 (cOp O).toList) :=
  ⟨by rw [blk_setCells _ 0 _ w1 h.1, setOp (cOp o) O (by simp)], (far_setCells (by omega) _ 0 w1).trans h.2.1, (far_setCells (by have := h.2.2.2.2; omega) _ 0 w1).trans h.2.2.1, below_setCells (Nat.le_refl _) _ _ _ h.2.2.2.1, h.2.2.2.2⟩
def Few (w : World) (g : Nat) (l : List S46) (o0 : SOp) (x y : Int) (j od : Nat) (o : SOp) (wr : World) : Prop :=
  LF w g o o0 x y wr ∧ j ≤ l.length ∧ j ≤ 10 ∧ (od : Int) + leftOf o ≤ leftOf o0 ∧ od ≤ j ∧ o.n = o0.n ∧ o.k = o0.k ∧ o.a = o0.a ∧ o.r = o0.r ∧ o.h = o0.h ∧ o.p = o0.p

attribute [local go_sem high] eqA26
set_option maxRecDepth 100000 in
set_option maxHeartbeats 8000000 in
theorem StepFew_core (o0 : SOp) (A0 : Option Addr) (c0 : Nat) (l : List S46) (x y : Int) (w : World) (hr : Kd.C k46 w A0 l.length l) (hc : l.length ≤ c0) :
    Calls Try.prog 6 #[vOp o0, .slice A0 l.length c0, .agg #[.int .i64 x, .int .i64 y]] w fun e w' => e = .returned (.bool true) ∧ Below w.heap.size w w' := by
  have HC := Aside0.mk hr
  clear hr hc
  have HS := Aside0.mk (And.intro (below2 w (.cells (cOp o0) 31) (.cells #[.int .i64 x, .int .i64 y] 48)) (LN2.start w o0 x y))
  go_enter Try.func6, Try.ntmps6
  go_upto_region 1 with fail
  change Code.wp Try.prog _ _ _ ((w.alloc (.cells (cOp o0) 31)).alloc (.cells #[.int .i64 x, .int .i64 y] 48))
  have hn : Aside0 (((w.alloc (.cells (cOp o0) 31)).alloc (.cells #[.int .i64 x, .int .i64 y] 48)).heap.size = w.heap.size + 1 + 1) := ⟨by simp only [World.size_alloc]⟩
  generalize (w.alloc (.cells (cOp o0) 31)).alloc (.cells #[.int .i64 x, .int .i64 y] 48) = wa at HS hn ⊢
  go_upto_region 2 with (first | ((with_reducible refine gate_ (.load 31 (.tmp 3)) rfl ?_); refine load_blk rfl 31 (.tmp 3) rfl w.heap.size _ 31 rfl _ HS.out.2.1 Try.underlying31 rfl (by kernel_rfl) ?_) | (go_at_call 12; refine (step_Left.calls 10 o0.n o0.k o0.a o0.r o0.h o0.p o0.nx o0.ch o0.ln o0.sq o0.ep o0.pl (leftOf o0) _ (left_ok o0)).mono ?_; rintro e1 w1 ⟨rfl, hb1⟩; have HX := Aside0.mk (And.intro (below_step HS.out.1 hb1) (And.intro (HS.out.2.below hb1) hb1)); clear hb1))
  change Code.wp Try.prog _ _ _ w1
  go_upto_region 4 with (first | ((with_reducible refine gate_ (.load 31 (.tmp 3)) rfl ?_); refine load_blk rfl 31 (.tmp 3) rfl w.heap.size _ 31 rfl _ HX.out.2.1.1 Try.underlying31 rfl (by kernel_rfl) ?_))
  change Code.wp Try.prog _ _ _ (w1.alloc (.cells (cOp o0) 31))
  have HY : Aside0 (LF w w1.heap.size o0 o0 x y (w1.alloc (.cells (cOp o0) 31))) := ⟨⟨blk_below (below_alloc (Below.refl _ _) _) HX.out.2.1.1, blk_below (below_alloc (Below.refl _ _) _) HX.out.2.1.2, heap_alloc_new w1 _, below_alloc HX.out.1 _, by have := (Array.getElem?_eq_some_iff.1 HX.out.2.1.2).1; omega⟩⟩
  clear HX HS hn
  generalize w1.alloc (.cells (cOp o0) 31) = w2 at HY ⊢
  generalize w1.heap.size = g at HY ⊢
  go_wp2
  have HCw := HC
  go_loopw [9, 10] (fun d i wr => ∃ (j od : Nat) (o : SOp), d = .int .i64 (od : Int) ∧ i = .int .i64 (j : Int) ∧ Aside0 (Few w g l o0 x y j od o wr)) (fun _ i _ => l.length - (intOf i).toNat)
  case atStart => exact ⟨0, 0, o0, rfl, rfl, ⟨HY.out, Nat.zero_le _, by omega, by omega, Nat.le_refl _, rfl, rfl, rfl, rfl, rfl, rfl⟩⟩
  case round =>
    obtain ⟨j, od, o, rfl, rfl, hF⟩ := hrel
    have HR : Aside0 (Kd.C k46 wr A0 l.length l) := ⟨Kd.C_below HC.out hF.out.1.2.2.2.1⟩
    by_cases hlt : (j : Int) < (l.length : Int)
    · by_cases h10 : (j : Int) < 10
      · obtain ⟨ad, t, rfl, hcell⟩ := told_at HR.out j hlt
        have HCELL := Aside0.mk hcell
        have HL := Aside0.mk (And.intro hlt h10)
        have d1 : decide ((j : Int) < (l.length : Int)) = true := decide_eq_true hlt
        have d2 : decide ((j : Int) < 10) = true := decide_eq_true h10
        have hge : (0 : Int) ≤ (j : Int) := by omega
        clear hcell
        go_upto_region 8 with (first | ((with_reducible refine gate_ (.load 46 (.tmp 31)) rfl ?_); refine load_any rfl 46 (.tmp 31) rfl (ad.add (j * 18)) rfl (cTold t) _ HCELL.out Try.underlying46 rfl (by kernel_rfl) ?_))
        change Code.wp Try.prog _ _ _ (wr.alloc (.cells (wCells t (.slice none 0 0) SOp.zero 0 0 0) 51))
        have HB := Aside0.mk (And.intro (WP.new wr t) (hF.out.1.below (below_alloc (Below.refl _ _) (.cells (wCells t (.slice none 0 0) SOp.zero 0 0 0) 51))))
        generalize wr.alloc (.cells (wCells t (.slice none 0 0) SOp.zero 0 0 0) 51) = wb at HB ⊢
        obtain ⟨O, R, b, e, hD⟩ : ∃ O R b e, doR t o = (O, R, b, e) := ⟨_, _, _, _, rfl⟩
        have HD := Aside0.mk hD
        clear hD HCELL
        go_upto_region 9 with (first | ((with_reducible refine gate_ (.load 31 (.tmp 3)) rfl ?_); refine load_blk rfl 31 (.tmp 3) rfl w.heap.size _ 31 rfl _ HB.out.2.1 Try.underlying31 rfl (by kernel_rfl) ?_) | ((with_reducible refine gate_ (.load 48 (.tmp 5)) rfl ?_); refine load_blk rfl 48 (.tmp 5) rfl (w.heap.size + 1) _ 48 rfl _ HB.out.2.2.1 Try.underlying48 rfl (by kernel_rfl) ?_) | (go_at_call 17; refine (Do_calls' wr.heap.size (wNew t) o x y O R b e HD.out wr wb HB.out.1 (by show 0 < 1000; omega)).mono ?_; rintro e4 w4 ⟨rfl, ⟨r4, hw4⟩, hk4⟩; have HX := Aside0.mk (And.intro hw4 (hF.out.1.below hw4.1)); clear hw4 hk4))
        change Code.wp Try.prog _ _ _ ((w4.alloc (.cells (cOp O) 31)).alloc (.cells (cRep R) 44))
        have HU := Aside0.mk (And.intro (HX.out.1.below (below2 w4 (.cells (cOp O) 31) (.cells (cRep R) 44))) (And.intro (HX.out.2.below (below2 w4 (.cells (cOp O) 31) (.cells (cRep R) 44))) (S2.new w4 O R)))
        clear HX HB
        generalize ((w4.alloc (.cells (cOp O) 31)).alloc (.cells (cRep R) 44)) = w5 at HU ⊢
        generalize w4.heap.size = g4 at HU ⊢
        have hwj : wrap64 ((j : Int) + 1) = (j : Int) + 1 := by clear d1 d2; have := HL.out; unfold wrap64; omega
        have HWJ := Aside0.mk hwj
        clear hwj
        by_cases he : e = 0
        · subst he
          obtain ⟨hp, hdo⟩ := doR_ok HD.out
          have hkeep := doOp_keep t o
          have hleft := doOp_left t o hp
          rw [hdo] at hkeep hleft
          dsimp only at hkeep hleft
          have HK := Aside0.mk hkeep
          have HLE := Aside0.mk hleft
          clear hkeep hleft hdo hp
          obtain ⟨A1, cap1, q0, _, _⟩ := HU.out.1.asked_n
          rw [if_pos rfl] at q0
          dsimp only at q0
          rw [asked_len] at q0
          have Q0 : Aside0 (w5.cell? ⟨wr.heap.size, 18, none⟩ = some (.slice A1 1 cap1)) := ⟨q0⟩
          clear q0
          have R1 : Aside0 (w5.rangeAt g4 1 (cReq o0.k o0.a o0.r o0.h o0.p).toList) := ⟨by
            have := World.rangeAt_of_block HU.out.2.2.1 1 5
            obtain ⟨_, f1, f2, f3, f4, f5⟩ := HK.out
            obtain ⟨_, _, _, _, _, _, k1, k2, k3, k4, k5⟩ := hF.out
            rw [← k1, ← k2, ← k3, ← k4, ← k5, ← f1, ← f2, ← f3, ← f4, ← f5]
            simpa using this⟩
          have R2 : Aside0 (w5.rangeAt g 1 (cReq o0.k o0.a o0.r o0.h o0.p).toList) := ⟨by
            have := World.rangeAt_of_block HU.out.2.1.2.2.1 1 5
            simpa using this⟩
          have N1 : Aside0 (w5.cell? ⟨g4, 0, none⟩ = some (.int .i64 o0.n)) := ⟨by
            have := (op_cells HU.out.2.2.1).1
            rw [this, HK.out.1, hF.out.2.2.2.2.2.1]⟩
          have N2 : Aside0 (w5.cell? ⟨g, 0, none⟩ = some (.int .i64 o0.n)) := ⟨(op_cells HU.out.2.1.2.2.1).1⟩
          have hwo : wrap64 ((od : Int) + 1) = (od : Int) + 1 := by clear d1 d2; have := hF.out.2.2.1; have := hF.out.2.2.2.2.1; unfold wrap64; omega
          have HWO := Aside0.mk hwo
          clear hwo
          go_upto_region 13 with fail
          refine wp_region_held_drew (S := fun w' => Below w5.heap.size w5 w') (by kernel_rfl) (pw_below_drewN (Below.refl _ _) 1) (fun hHeld => ?_)
          generalize w5.drew = w6 at hHeld ⊢
          refine take_at (i := 0) (v := .pointer (some ⟨wr.heap.size, 0, none⟩)) 55 rfl rfl (by kernel_rfl) (by kernel_rfl) (by kernel_rfl) (fun _ _ _ h => h) (Or.inl ⟨by rfl, fun w _ => by first | (go_simp; done) | (go_simp; with_reducible rfl) | rfl⟩) hHeld ?_
          try simp only [Act.put, List.setIfInBounds_toArray, List.set_cons_zero, List.set_cons_succ]
          refine take_at (i := 1) (v := .pointer (some ⟨wr.heap.size, 0, none⟩)) 56 rfl rfl (by kernel_rfl) (by kernel_rfl) (by kernel_rfl) (fun _ _ _ h => h) (Or.inl ⟨by rfl, fun w _ => by first | (go_simp; done) | (go_simp; with_reducible rfl) | rfl⟩) hHeld ?_
          try simp only [Act.put, List.setIfInBounds_toArray, List.set_cons_zero, List.set_cons_succ]
          refine take_at (i := 2) (v := .pointer (some ⟨wr.heap.size, 18, none⟩)) 57 rfl rfl (by kernel_rfl) (by kernel_rfl) (by kernel_rfl) (fun _ _ _ h => h) (Or.inl ⟨by rfl, fun w _ => by first | (go_simp; done) | (go_simp; with_reducible rfl) | rfl⟩) hHeld ?_
          try simp only [Act.put, List.setIfInBounds_toArray, List.set_cons_zero, List.set_cons_succ]
          refine take_at (i := 3) (v := .slice A1 1 cap1) 58 rfl rfl (by kernel_rfl) (by kernel_rfl) (by kernel_rfl) (fun _ _ _ h => h) (Or.inl ⟨by rfl, fun w' hS => by have hq := pw_cell_below hS Q0.out; go_simp⟩) hHeld ?_
          try simp only [Act.put, List.setIfInBounds_toArray, List.set_cons_zero, List.set_cons_succ]
          refine take_at (i := 4) (v := .int .i64 1) 59 rfl rfl (by kernel_rfl) (by kernel_rfl) (by kernel_rfl) (fun _ _ _ h => h) (Or.inl ⟨by rfl, fun w _ => by first | (go_simp; done) | (go_simp; with_reducible rfl) | rfl⟩) hHeld ?_
          try simp only [Act.put, List.setIfInBounds_toArray, List.set_cons_zero, List.set_cons_succ]
          refine take_at (i := 5) (v := .bool false) 60 rfl rfl (by kernel_rfl) (by kernel_rfl) (by kernel_rfl) (fun _ _ _ h => h) (Or.inl ⟨by rfl, fun w _ => by first | (go_simp; done) | (go_simp; with_reducible rfl) | rfl⟩) hHeld ?_
          try simp only [Act.put, List.setIfInBounds_toArray, List.set_cons_zero, List.set_cons_succ]
          refine take_at (i := 6) (v := .bool false) 61 rfl rfl (by kernel_rfl) (by kernel_rfl) (by kernel_rfl) (fun _ _ _ h => h) (Or.inl ⟨by rfl, fun w _ => by first | (go_simp; done) | (go_simp; with_reducible rfl) | rfl⟩) hHeld ?_
          try simp only [Act.put, List.setIfInBounds_toArray, List.set_cons_zero, List.set_cons_succ]
          refine take_at (i := 7) (v := .pointer (some ⟨g4, 0, none⟩)) 62 rfl rfl (by kernel_rfl) (by kernel_rfl) (by kernel_rfl) (fun _ _ _ h => h) (Or.inl ⟨by rfl, fun w _ => by first | (go_simp; done) | (go_simp; with_reducible rfl) | rfl⟩) hHeld ?_
          try simp only [Act.put, List.setIfInBounds_toArray, List.set_cons_zero, List.set_cons_succ]
          refine take_at (i := 8) (v := .int .i64 o0.n) 63 rfl rfl (by kernel_rfl) (by kernel_rfl) (by kernel_rfl) (fun _ _ _ h => h) (Or.inl ⟨by rfl, fun w' hS => by have hq := pw_cell_below hS N1.out; go_simp⟩) hHeld ?_
          try simp only [Act.put, List.setIfInBounds_toArray, List.set_cons_zero, List.set_cons_succ]
          refine take_at (i := 9) (v := .pointer (some ⟨g, 0, none⟩)) 64 rfl rfl (by kernel_rfl) (by kernel_rfl) (by kernel_rfl) (fun _ _ _ h => h) (Or.inl ⟨by rfl, fun w _ => by first | (go_simp; done) | (go_simp; with_reducible rfl) | rfl⟩) hHeld ?_
          try simp only [Act.put, List.setIfInBounds_toArray, List.set_cons_zero, List.set_cons_succ]
          refine take_at (i := 10) (v := .int .i64 o0.n) 65 rfl rfl (by kernel_rfl) (by kernel_rfl) (by kernel_rfl) (fun _ _ _ h => h) (Or.inl ⟨by rfl, fun w' hS => by have hq := pw_cell_below hS N2.out; go_simp⟩) hHeld ?_
          try simp only [Act.put, List.setIfInBounds_toArray, List.set_cons_zero, List.set_cons_succ]
          refine take_at (i := 11) (v := .bool false) 66 rfl rfl (by kernel_rfl) (by kernel_rfl) (by kernel_rfl) (fun _ _ _ h => h) (Or.inl ⟨by rfl, fun w _ => by first | (go_simp; done) | (go_simp; with_reducible rfl) | rfl⟩) hHeld ?_
          try simp only [Act.put, List.setIfInBounds_toArray, List.set_cons_zero, List.set_cons_succ]
          refine take_at (i := 12) (v := .bool false) 67 rfl rfl (by kernel_rfl) (by kernel_rfl) (by kernel_rfl) (fun _ _ _ h => h) (Or.inl ⟨by rfl, fun w _ => by first | (go_simp; done) | (go_simp; with_reducible rfl) | rfl⟩) hHeld ?_
          try simp only [Act.put, List.setIfInBounds_toArray, List.set_cons_zero, List.set_cons_succ]
          refine take_at (i := 13) (v := .bool false) 68 rfl rfl (by kernel_rfl) (by kernel_rfl) (by kernel_rfl) (fun _ _ _ h => h) (Or.inl ⟨by rfl, fun w _ => by first | (go_simp; done) | (go_simp; with_reducible rfl) | rfl⟩) hHeld ?_
          try simp only [Act.put, List.setIfInBounds_toArray, List.set_cons_zero, List.set_cons_succ]
          refine take_at (i := 14) (v := .pointer (some ⟨g4, 1, none⟩)) 69 rfl rfl (by kernel_rfl) (by kernel_rfl) (by kernel_rfl) (fun _ _ _ h => h) (Or.inl ⟨by rfl, fun w _ => by first | (go_simp; done) | (go_simp; with_reducible rfl) | rfl⟩) hHeld ?_
          try simp only [Act.put, List.setIfInBounds_toArray, List.set_cons_zero, List.set_cons_succ]
          refine take_at (i := 15) (v := .agg (cReq o0.k o0.a o0.r o0.h o0.p)) 70 rfl rfl (by kernel_rfl) (by kernel_rfl) (by kernel_rfl) (fun _ _ _ h => h) (yieldsIf_load_mid (by rfl) 26 (.tmp 69) rfl g4 1 rfl (cReq o0.k o0.a o0.r o0.h o0.p).toList _ (fun w' hS => range_below hS R1.out) Try.underlying26 rfl (by kernel_rfl)) hHeld ?_
          try simp only [Act.put, List.setIfInBounds_toArray, List.set_cons_zero, List.set_cons_succ]
          refine take_at (i := 16) (v := .pointer (some ⟨g, 1, none⟩)) 71 rfl rfl (by kernel_rfl) (by kernel_rfl) (by kernel_rfl) (fun _ _ _ h => h) (Or.inl ⟨by rfl, fun w _ => by first | (go_simp; done) | (go_simp; with_reducible rfl) | rfl⟩) hHeld ?_
          try simp only [Act.put, List.setIfInBounds_toArray, List.set_cons_zero, List.set_cons_succ]
          refine take_at (i := 17) (v := .agg (cReq o0.k o0.a o0.r o0.h o0.p)) 72 rfl rfl (by kernel_rfl) (by kernel_rfl) (by kernel_rfl) (fun _ _ _ h => h) (yieldsIf_load_mid (by rfl) 26 (.tmp 71) rfl g 1 rfl (cReq o0.k o0.a o0.r o0.h o0.p).toList _ (fun w' hS => range_below hS R2.out) Try.underlying26 rfl (by kernel_rfl)) hHeld ?_
          try simp only [Act.put, List.setIfInBounds_toArray, List.set_cons_zero, List.set_cons_succ]
          refine take_at (i := 18) (v := .bool false) 73 rfl rfl (by kernel_rfl) (by kernel_rfl) (by kernel_rfl) (fun _ _ _ h => h) (Or.inl ⟨by rfl, fun w _ => by first | (go_simp; done) | (go_simp; with_reducible rfl) | rfl⟩) hHeld ?_
          try simp only [Act.put, List.setIfInBounds_toArray, List.set_cons_zero, List.set_cons_succ]
          refine take_at (i := 19) (v := .bool false) 74 rfl rfl (by kernel_rfl) (by kernel_rfl) (by kernel_rfl) (fun _ _ _ h => h) (Or.inl ⟨by rfl, fun w _ => by first | (go_simp; done) | (go_simp; with_reducible rfl) | rfl⟩) hHeld ?_
          try simp only [Act.put, List.setIfInBounds_toArray, List.set_cons_zero, List.set_cons_succ]
          refine take_at (i := 20) (v := .bool false) 75 rfl rfl (by kernel_rfl) (by kernel_rfl) (by kernel_rfl) (fun _ _ _ h => h) (Or.inl ⟨by rfl, fun w _ => by first | (go_simp; done) | (go_simp; with_reducible rfl) | rfl⟩) hHeld ?_
          try simp only [Act.put, List.setIfInBounds_toArray, List.set_cons_zero, List.set_cons_succ]
          refine take_at (i := 21) (v := vOp O) 76 rfl rfl (by kernel_rfl) (by kernel_rfl) (by kernel_rfl) (fun _ _ _ h => h) (yields_blk (by rfl) 31 (.tmp 12) rfl g4 _ 31 rfl _ (fun w' hS => blk_below hS HU.out.2.2.1) Try.underlying31 rfl (by kernel_rfl)) hHeld ?_
          try simp only [Act.put, List.setIfInBounds_toArray, List.set_cons_zero, List.set_cons_succ]
          refine take_at (i := 23) (v := vOp O) 78 rfl rfl (by kernel_rfl) (by kernel_rfl) (by kernel_rfl) (fun _ _ _ h => h) (yields_blk (by rfl) 31 (.tmp 12) rfl g4 _ 31 rfl _ (fun w' hS => blk_below hS HU.out.2.2.1) Try.underlying31 rfl (by kernel_rfl)) hHeld ?_
          try simp only [Act.put, List.setIfInBounds_toArray, List.set_cons_zero, List.set_cons_succ]
          refine wpAnyH_ready (rs := [22]) (by kernel_rfl) (by simp) ?_
          refine AllReadyH.cons rfl (fun K hK => ?_) AllReadyH.nil
          go_simp
          go_wp2_with (first | (go_at_call 12; refine (step_Left.calls 10 O.n O.k O.a O.r O.h O.p O.nx O.ch O.ln O.sq O.ep O.pl (leftOf O) _ (left_ok O)).mono ?_; rintro e7 w7 ⟨rfl, hb⟩; have H7 := Aside0.mk (below_step hHeld hb); clear hb))
          clear hHeld
          refine hK.out _ _ H7.out (fun hHeld => ?_)
          clear hK K
          try simp only [Act.put, List.setIfInBounds_toArray, List.set_cons_zero, List.set_cons_succ]
          refine wpAnyH_ready (rs := [24]) (by kernel_rfl) (by simp) ?_
          refine AllReadyH.cons rfl (fun K hK => ?_) AllReadyH.nil
          go_simp
          go_wp2_with (first | (go_at_call 13; refine (rampartref17_Left.calls 10 O.n O.k O.a O.r O.h O.p O.nx O.ch O.ln O.sq O.ep O.pl (leftOf O) _ (rleft_ok O)).mono ?_; rintro e8 w8 ⟨rfl, hb⟩; have H8 := Aside0.mk (below_step H7.out hb); clear hb))
          clear hHeld
          refine hK.out _ _ H8.out (fun hHeld => ?_)
          clear hK K
          try simp only [Act.put, List.setIfInBounds_toArray, List.set_cons_zero, List.set_cons_succ]
          refine take_at (i := 25) (v := .bool false) 80 rfl rfl (by kernel_rfl) (by kernel_rfl) (by kernel_rfl) (fun _ _ _ h => h) (Or.inl ⟨by rfl, fun w _ => by first | (go_simp; done) | (go_simp; with_reducible rfl) | rfl⟩) hHeld ?_
          try simp only [Act.put, List.setIfInBounds_toArray, List.set_cons_zero, List.set_cons_succ]
          refine take_at (i := 26) (v := .bool false) 81 rfl rfl (by kernel_rfl) (by kernel_rfl) (by kernel_rfl) (fun _ _ _ h => h) (Or.inl ⟨by rfl, fun w _ => by first | (go_simp; done) | (go_simp; with_reducible rfl) | rfl⟩) hHeld ?_
          try simp only [Act.put, List.setIfInBounds_toArray, List.set_cons_zero, List.set_cons_succ]
          refine take_at (i := 27) (v := .bool false) 82 rfl rfl (by kernel_rfl) (by kernel_rfl) (by kernel_rfl) (fun _ _ _ h => h) (Or.inl ⟨by rfl, fun w _ => by first | (go_simp; done) | (go_simp; with_reducible rfl) | rfl⟩) hHeld ?_
          try simp only [Act.put, List.setIfInBounds_toArray, List.set_cons_zero, List.set_cons_succ]
          refine take_at (i := 28) (v := .bool b) 83 rfl rfl (by kernel_rfl) (by kernel_rfl) (by kernel_rfl) (fun _ _ _ h => h) (Or.inl ⟨by rfl, fun w _ => by first | (go_simp; done) | (go_simp; with_reducible rfl) | rfl⟩) hHeld ?_
          try simp only [Act.put, List.setIfInBounds_toArray, List.set_cons_zero, List.set_cons_succ]
          refine take_at (i := 29) (v := vOp O) 84 rfl rfl (by kernel_rfl) (by kernel_rfl) (by kernel_rfl) (fun _ _ _ h => h) (yields_blk (by rfl) 31 (.tmp 12) rfl g4 _ 31 rfl _ (fun w' hS => blk_below hS HU.out.2.2.1) Try.underlying31 rfl (by kernel_rfl)) hHeld ?_
          try simp only [Act.put, List.setIfInBounds_toArray, List.set_cons_zero, List.set_cons_succ]
          refine wpAnyH_ready (rs := [30]) (by kernel_rfl) (by simp) ?_
          refine AllReadyH.cons rfl (fun K hK => ?_) AllReadyH.nil
          go_simp
          go_wp2_with (first | (go_at_call 12; refine (step_Left.calls 10 O.n O.k O.a O.r O.h O.p O.nx O.ch O.ln O.sq O.ep O.pl (leftOf O) _ (left_ok O)).mono ?_; rintro e9 w9 ⟨rfl, hb⟩; have H9 := Aside0.mk (below_step H8.out hb); clear hb))
          clear hHeld
          refine hK.out _ _ H9.out (fun hHeld => ?_)
          clear hK K
          try simp only [Act.put, List.setIfInBounds_toArray, List.set_cons_zero, List.set_cons_succ]
          refine take_at (i := 31) (v := .bool b) 86 rfl rfl (by kernel_rfl) (by kernel_rfl) (by kernel_rfl) (fun _ _ _ h => h) (Or.inl ⟨by rfl, fun w _ => by have hz := HLE.out.2.1; go_simp⟩) hHeld ?_
          try simp only [Act.put, List.setIfInBounds_toArray, List.set_cons_zero, List.set_cons_succ]
          refine take_at (i := 32) (v := .bool false) 87 rfl rfl (by kernel_rfl) (by kernel_rfl) (by kernel_rfl) (fun _ _ _ h => h) (Or.inl ⟨by rfl, fun w _ => by cases b <;> first | (go_simp; done) | (go_simp; with_reducible rfl) | rfl⟩) hHeld ?_
          try simp only [Act.put, List.setIfInBounds_toArray, List.set_cons_zero, List.set_cons_succ]
          refine take_at (i := 33) (v := .bool false) 88 rfl rfl (by kernel_rfl) (by kernel_rfl) (by kernel_rfl) (fun _ _ _ h => h) (Or.inl ⟨by rfl, fun w _ => by first | (go_simp; done) | (go_simp; with_reducible rfl) | rfl⟩) hHeld ?_
          try simp only [Act.put, List.setIfInBounds_toArray, List.set_cons_zero, List.set_cons_succ]
          refine wpAnyH_done (by kernel_rfl) ?_ _
          clear hHeld
          have HV := Aside0.mk (And.intro (HU.out.2.1.below H9.out) (blk_below H9.out HU.out.2.2.1))
          go_wp2_with (first | ((with_reducible refine gate_ (.load 31 (.tmp 12)) rfl ?_); refine load_blk rfl 31 (.tmp 12) rfl g4 _ 31 rfl _ HV.out.2 Try.underlying31 rfl (by kernel_rfl) ?_) | ((with_reducible refine gate_store (p := 3) (t := 31) rfl ?_); refine store_blk rfl 31 (.tmp 3) (.tmp 89) rfl w.heap.size 0 (cOp O) _ 31 rfl rfl HV.out.1.1 (by simp) (by kernel_rfl) (by simp [Value.oneCell']) ?_; intro wz ez hwz; have HQ := Aside0.mk (HV.out.1.op O); rw [← show wz = _ from ez] at HQ; clear ez hwz))
          go_roundw
          case rel =>
            refine ⟨j + 1, od + 1, O, by first | rfl | (rw [HWO.out]; rfl), by first | rfl | (rw [HWJ.out]; rfl), ⟨HQ.out, by have := HL.out; omega, by have := HL.out; omega, by have := HLE.out; have := hF.out.2.2.2.1; omega, by have := hF.out.2.2.2.2.1; omega, ?_⟩⟩
            obtain ⟨f0, f1, f2, f3, f4, f5⟩ := HK.out
            obtain ⟨_, _, _, _, _, k0, k1, k2, k3, k4, k5⟩ := hF.out
            exact ⟨f0.trans k0, f1.trans k1, f2.trans k2, f3.trans k3, f4.trans k4, f5.trans k5⟩
          case measure =>
            have hh : l.length - ((j : Int) + 1).toNat < l.length - ((j : Int)).toNat := by have := HL.out; omega
            have hw := HWJ.out
            generalize l.length = L at hh ⊢
            first | exact hh | (simp only [hw]; exact hh)
        · have hne : (e != 0) = true := bne_iff_ne.mpr he
          have hW : WP wr.heap.size wr { wNew t with rd := r4 } w5 := by
            have := HU.out.1
            rw [if_neg he] at this
            exact this
          obtain ⟨A1, cap1, q0⟩ := hW.asked0 rfl
          clear hW he
          go_wp2
          go_roundw
          case rel => exact ⟨j + 1, od, o, rfl, by first | rfl | (rw [HWJ.out]; rfl), ⟨HU.out.2.1, by have := HL.out; omega, by have := HL.out; omega, hF.out.2.2.2.1, by have := hF.out.2.2.2.2.1; omega, hF.out.2.2.2.2.2⟩⟩
          case measure =>
            have hh : l.length - ((j : Int) + 1).toNat < l.length - ((j : Int)).toNat := by have := HL.out; omega
            have hw := HWJ.out
            generalize l.length = L at hh ⊢
            first | exact hh | (simp only [hw]; exact hh)
      · have d1 : decide ((j : Int) < (l.length : Int)) = true := decide_eq_true hlt
        have d2 : decide ((j : Int) < 10) = false := decide_eq_false h10
        have d3 : decide ((od : Int) ≤ leftOf o0) = true := decide_eq_true (by have := hF.out.2.2.2.1; have := left_nn o; omega)
        go_wp2_with (first | (go_at_call 14; refine (alive_calls _).mono ?_; rintro e10 w10 ⟨rfl, hb10⟩; have HF := Aside0.mk (below_step hF.out.1.2.2.2.1 hb10); clear hb10))
        go_ret
        exact ⟨rfl, HF.out⟩
    · have d1 : decide ((j : Int) < (l.length : Int)) = false := decide_eq_false hlt
      have d3 : decide ((od : Int) ≤ leftOf o0) = true := decide_eq_true (by have := hF.out.2.2.2.1; have := left_nn o; omega)
      go_wp2_with (first | (go_at_call 14; refine (alive_calls _).mono ?_; rintro e10 w10 ⟨rfl, hb10⟩; have HF := Aside0.mk (below_step hF.out.1.2.2.2.1 hb10); clear hb10))
      go_ret
      exact ⟨rfl, HF.out⟩
theorem StepFew_walk (a0 a1 a2 a3 a4 a5 a6 a7 a8 a9 a10 a11 : Int) (A0 : Option Addr) (c0 : Nat) (l : List S46) (x y : Int) (w : World) (hr : Kd.C k46 w A0 l.length l) (hc : l.length ≤ c0) {P0 P1 P2 : Prop} (_h0 : P0) (_h1 : P1) (_h2 : P2) :
    Calls Try.prog 6 #[.agg #[.int .i64 a0, .int .u8 a1, .int .u8 a2, .int .u8 a3, .int .u32 a4, .int .u64 a5, .int .i64 a6, .int .i64 a7, .int .i64 a8, .int .u64 a9, .int .u64 a10, .int .u64 a11], .slice A0 l.length c0, .agg #[.int .i64 x, .int .i64 y]] w fun e w' => e = .returned (.bool true) ∧ Below w.heap.size w w' :=
  StepFew_core ⟨a0, a1, a2, a3, a4, a5, a6, a7, a8, a9, a10, a11⟩ A0 c0 l x y w hr hc
end Go.Proofs.Ytooddkaepkjidaa.QSt
