/- Lane: Claim. -/
import Derived.Test.YtglekbbdbnpohaaZ1Ln
namespace Go.Proofs.Ytglekbbdbnpohaa.QLn
open Go.RowKit Go.Proofs.YtglekbbdbnpohaaW.PrintWords Go.Proofs.YtglekbbdbnpohaaW.PrintLast Go.Proofs.YtglekbbdbnpohaaW.PrintMore
set_option linter.unusedVariables false
set_option linter.unusedSimpArgs false
abbrev aTick (q ep : Int) : Array Value := #[.int .u64 q, .int .u64 ep]
abbrev aSlot (n g : Int) : Array Value := #[.int .i64 n, .int .u64 g]
abbrev aStamp (t s : Int) : Array Value := #[.int .i64 t, .int .i64 s]
/-- What a call of the lane at b knows of its world: the lane, its own boxes, and that nothing else has turned. -/
structure Bd (b : Nat) (mb : Nat) (w : World) (s : LS) (L : List (Nat × Obj)) (w1 : World) : Prop where
  ln : Ln w1 b s
  far : Far b mb w w1
  hmb : s.mb = mb
  hb : b < w.heap.size
  hm : mb < w.heap.size
  obj : ∀ p ∈ L, w1.heap[p.1]? = some p.2 ∧ w.heap.size ≤ p.1
theorem Bd.start {b : Nat} {w : World} {s : LS} (h : Ln w b s) : Bd b s.mb w s [] w := ⟨h, Far.refl _ _ _, rfl, h.lt, h.map.lt, by simp⟩
theorem Bd.below {b mb : Nat} {w w1 w2 : World} {s : LS} {L : List (Nat × Obj)} (h : Bd b mb w s L w1) (k : Below w1.heap.size w1 w2) : Bd b mb w s L w2 :=
  ⟨h.ln.below k, h.far.trans (Far.of_below k), h.hmb, h.hb, h.hm, fun p hp => ⟨obj_below k (h.obj p hp).1, (h.obj p hp).2⟩⟩
theorem Bd.alloc {b mb : Nat} {w w1 : World} {s : LS} {L : List (Nat × Obj)} (h : Bd b mb w s L w1) (o : Obj) : Bd b mb w s ((w1.heap.size, o) :: L) (w1.alloc o) := by
  have k := h.below ((Below.refl _ w1).alloc (Nat.le_refl _) o)
  refine ⟨k.ln, k.far, k.hmb, k.hb, k.hm, fun p hp => ?_⟩
  rcases List.mem_cons.1 hp with rfl | hp
  · exact ⟨World.alloc_heap_new _ _, h.far.size⟩
  · exact k.obj p hp
theorem Bd.lane {b mb : Nat} {w w1 : World} {s s' : LS} {L : List (Nat × Obj)} (h : Bd b mb w s L w1) (o : Nat) (vs : List Value) (ho : o + vs.length ≤ 330)
    (hv : ∀ j, j < 330 → some (lval s' j) = if o ≤ j ∧ j < o + vs.length then vs[j - o]? else some (lval s j)) (hm : s'.mb = s.mb) (hn : s'.n = s.n) (hD : s'.D = s.D) : Bd b mb w s' L (w1.setCells b o vs) := by
  refine ⟨h.ln.setAll o vs ho hv hm hn hD, Far.setCells vs o w1 h.far, hm.trans h.hmb, h.hb, h.hm, fun p hp => ⟨?_, (h.obj p hp).2⟩⟩
  rw [far_setCells (by have := (h.obj p hp).2; have := h.hb; omega)]
  exact (h.obj p hp).1
theorem Bd.lane1 {b mb : Nat} {w w1 : World} {s s' : LS} {L : List (Nat × Obj)} (h : Bd b mb w s L w1) (o : Nat) (v : Value) (ho : o < 330)
    (hv : ∀ j, j < 330 → lval s' j = if j = o then v else lval s j) (hm : s'.mb = s.mb) (hn : s'.n = s.n) (hD : s'.D = s.D) : Bd b mb w s' L (w1.setCell ⟨b, o, none⟩ v) := by
  refine Bd.lane h o [v] (by simp; omega) (fun j hj => ?_) hm hn hD
  rw [hv j hj]
  by_cases e : j = o
  · subst e; rw [if_pos rfl, if_pos (by simp)]; simp
  · rw [if_neg e, if_neg (by simp; omega)]
/-- A store of a whole box. -/
theorem Bd.box {b mb : Nat} {w w1 : World} {s : LS} {L L' : List (Nat × Obj)} (h : Bd b mb w s L w1) (g : Nat) (C : Array Value) (t : TypeId) (hg : (g, Obj.cells C t) ∈ L) (o : Nat) (vs : List Value)
    (hL : ∀ p ∈ L', p = (g, Obj.cells (QLn.setAll C o vs) t) ∨ (p ∈ L ∧ p.1 ≠ g)) : Bd b mb w s L' (w1.setCells g o vs) := by
  obtain ⟨h1, h2⟩ := h.obj _ hg
  have hgb : b ≠ g := by have := h.hb; simp only at h2; omega
  have hgm : mb ≠ g := by have := h.hm; simp only at h2; omega
  refine ⟨h.ln.of (far_setCells hgb vs o w1) (far_setCells (by rw [h.hmb]; exact hgm) vs o w1), ?_, h.hmb, h.hb, h.hm, fun p hp => ?_⟩
  · have k := below_setCells (w0 := w1) h2 vs o w1 (Below.refl _ _)
    exact ⟨k.os.trans h.far.os, k.tape.trans h.far.tape, k.output.trans h.far.output, Nat.le_trans h.far.size k.size, fun i hi a1 a2 => (k.block i hi).trans (h.far.block i hi a1 a2)⟩
  · rcases hL p hp with rfl | ⟨hp, hne⟩
    · exact ⟨blk_setCells vs o C w1 h1, h2⟩
    · exact ⟨(far_setCells hne vs o w1).trans (h.obj p hp).1, (h.obj p hp).2⟩
theorem Bd.map {b mb : Nat} {w w1 w2 : World} {s : LS} {L : List (Nat × Obj)} (h : Bd b mb w s L w1) {n : Nat} {D : DataW Past} (hg : w1.grownBy w2 (some mb)) (ho : w2.ownsMap Try.prog 22 Rp mb n D) : Bd b mb w { s with n := n, D := D } L w2 := by
  have e := h.hmb
  refine ⟨h.ln.map' (by rw [e]; exact hg) (by rw [e]; exact ho), h.far.grown hg, h.hmb, h.hb, h.hm, fun p hp => ⟨?_, (h.obj p hp).2⟩⟩
  obtain ⟨h1, h2⟩ := h.obj p hp
  rw [hg.block p.1 (Array.getElem?_eq_some_iff.1 h1).1 (fun e => by cases e; have := h.hm; omega)]
  exact h1
theorem Bd.ptr {b mb : Nat} {w w1 : World} {s : LS} {L : List (Nat × Obj)} (h : Bd b mb w s L w1) {g : Nat} {C : Array Value} {t : TypeId} (hg : (g, Obj.cells C t) ∈ L) (k : Nat) : w1.cell? ⟨g, k, none⟩ = C[k]? ∧ w1.frozen? ⟨g, k, none⟩ = false := by
  have h1 := (h.obj _ hg).1
  constructor
  · simp only [World.cell?, h1]; rfl
  · simp [World.frozen?, h1]
theorem lval_upd (s : LS) (i : Nat) (hi : i < 64) (e : Ent) (o : Nat) (vs : List Value) (ho : o + vs.length ≤ 5) (he : ∀ j, j < 5 → some (e.at j) = if o ≤ j ∧ j < o + vs.length then vs[j - o]? else some ((s.ring i).at j)) :
    ∀ j, j < 330 → some (lval { s with ring := upd s.ring i e } j) = if 4 + i * 5 + o ≤ j ∧ j < 4 + i * 5 + o + vs.length then vs[j - (4 + i * 5 + o)]? else some (lval s j) := by
  intro j hj
  by_cases h1 : 4 ≤ j ∧ j < 324
  · have e1 : lval { s with ring := upd s.ring i e } j = (upd s.ring i e ((j - 4) / 5)).at ((j - 4) % 5) := by
      unfold lval
      rw [if_neg (by omega), if_neg (by omega), if_neg (by omega), if_neg (by omega), if_pos h1.2]
    have e2 : lval s j = (s.ring ((j - 4) / 5)).at ((j - 4) % 5) := by
      unfold lval
      rw [if_neg (by omega), if_neg (by omega), if_neg (by omega), if_neg (by omega), if_pos h1.2]
    rw [e1, e2]
    unfold upd
    by_cases h2 : (j - 4) / 5 = i
    · rw [if_pos h2, he _ (by omega), h2]
      by_cases h3 : o ≤ (j - 4) % 5 ∧ (j - 4) % 5 < o + vs.length
      · rw [if_pos h3, if_pos (by omega), show (j - 4) % 5 - o = j - (4 + i * 5 + o) by omega]
      · rw [if_neg h3, if_neg (by omega)]
    · rw [if_neg h2, if_neg (by omega)]
  · rw [if_neg (by omega)]
    unfold lval
    by_cases h2 : j < 4
    · have : j = 0 ∨ j = 1 ∨ j = 2 ∨ j = 3 := by omega
      rcases this with rfl | rfl | rfl | rfl <;> rfl
    · rw [if_neg (show ¬ j < 324 by omega), if_neg (show ¬ j < 324 by omega)]
theorem pl_lt {s : LS} (hp : Pw s.size) (x : Int) : pl s x < 64 := by
  have hb := hp.bds
  have i0 := Int.emod_nonneg x (show s.size ≠ 0 by omega)
  have i1 := Int.emod_lt_of_pos x (show 0 < s.size by omega)
  unfold pl; omega
theorem Bd.ent {b mb : Nat} {w w1 : World} {s : LS} {L : List (Nat × Obj)} (h : Bd b mb w s L w1) (i : Nat) (hi : i < 64) (e : Ent) (o : Nat) (vs : List Value) (ho : o + vs.length ≤ 5)
    (he : ∀ j, j < 5 → some (e.at j) = if o ≤ j ∧ j < o + vs.length then vs[j - o]? else some ((s.ring i).at j)) : Bd b mb w { s with ring := upd s.ring i e } L (w1.setCells b (4 + i * 5 + o) vs) :=
  h.lane _ vs (by omega) (lval_upd s i hi e o vs ho he) rfl rfl rfl
theorem Ln.there {w : World} {b : Nat} {s : LS} (h : Ln w b s) (o n : Nat) (hn : o + n ≤ 330) : w.there b o n := by
  obtain ⟨A, hA, hv⟩ := h.blk
  exact there_of_block hA o n (by rw [hv.1]; exact hn)
section
variable {P : Program}
theorem store_ln {ops : Array Oper} {rest : List Oper} {op : Oper} {a : Act} {w : World} {Q : Exit → Act → World → Prop} (hgd : op.guard = none) (ty : TypeId) (x y : Operand) (ho : op.op = .store ty x y)
    (b o : Nat) (cells : Array Value) (s : LS) (hx : a.eval x = .pointer (some ⟨b, o, none⟩)) (hy : a.eval y = .agg cells)
    (hw : Ln w b s) (hsz : o + cells.size ≤ 330) (hi : (P.info? ty).map (·.size) = some cells.size) (h1 : cells.all (·.oneCell') = true)
    (h : ∀ w', w' = w.setCells b o cells.toList → wpList P ops Q rest (a.put op.dst undef) w') : wpList P ops Q (op :: rest) a w :=
  wpList_store_mid hgd ty x y ho b o cells hx hy (hw.there o _ hsz) hi h1 (h _ rfl)
end
theorem lval_left (s : LS) (x : Int) : ∀ j, j < 330 → lval { s with left := x } j = if j = 2 then .int .i64 x else lval s j := by
  intro j hj
  by_cases e : j = 2
  · subst e; rfl
  · rw [if_neg e]; simp only [lval, if_neg e]
theorem lval_base (s : LS) (x : Int) : ∀ j, j < 330 → lval { s with base := x } j = if j = 324 then .int .u64 x else lval s j := by
  intro j hj
  by_cases e : j = 324
  · subst e; rfl
  · rw [if_neg e]; simp only [lval, if_neg e]
theorem lval_head (s : LS) (x : Int) : ∀ j, j < 330 → lval { s with head := x } j = if j = 325 then .int .u64 x else lval s j := by
  intro j hj
  by_cases e : j = 325
  · subst e; rfl
  · rw [if_neg e]; simp only [lval, if_neg e]
theorem lval_ready (s : LS) (x : Int) : ∀ j, j < 330 → lval { s with ready := x } j = if j = 326 then .int .u64 x else lval s j := by
  intro j hj
  by_cases e : j = 326
  · subst e; rfl
  · rw [if_neg e]; simp only [lval, if_neg e]
theorem lval_tail (s : LS) (x : Int) : ∀ j, j < 330 → lval { s with tail := x } j = if j = 327 then .int .u64 x else lval s j := by
  intro j hj
  by_cases e : j = 327
  · subst e; rfl
  · rw [if_neg e]; simp only [lval, if_neg e]
theorem lval_epoch (s : LS) (x : Int) : ∀ j, j < 330 → lval { s with epoch := x } j = if j = 328 then .int .u64 x else lval s j := by
  intro j hj
  by_cases e : j = 328
  · subst e; rfl
  · rw [if_neg e]; simp only [lval, if_neg e]
def claimS (s : LS) : LS := { s with ring := upd s.ring (pl s s.tail) ⟨1, 0, 0, 0, 0⟩, tail := IntKind.u64.wrap (s.tail + 1), left := s.left - 1 }
set_option maxHeartbeats 2000000 in
theorem Claim_calls (b : Nat) (s : LS) (hl0 : 0 < s.left) (hl : s.left ≤ 64) (hc : 0 < s.credit) (ht : U64 s.tail) (hp : Pw s.size) (w : World) (h : Ln w b s) : Calls Try.prog 15 #[.pointer (some ⟨b, 0, none⟩)] w fun e w' =>
    e = .returned (.tuple #[.agg (aTick s.tail s.epoch), .int .i64 0]) ∧ Ln w' b (claimS s) ∧ Far b s.mb w w' := by
  have HL := Aside0.mk h
  have HT := Aside0.mk ht
  have HP := Aside0.mk hp
  have d1 : decide (s.credit > 0) = true := decide_eq_true hc
  have d2 : (s.left == 0) = false := by simp; omega
  have HL0 := Aside0.mk hl0
  have HL64 := Aside0.mk hl
  clear hc hl0 hl ht hp
  have HB0 := Aside0.mk ((Bd.start h).alloc (.cells #[.int .u64 0, .int .u64 0] 34))
  clear h
  go_enter Try.func15, Try.ntmps15
  go_upto_region 3 with (go_at_call 34; refine (is_calls b s _ HB0.out.ln).mono ?_; rintro e1 w1 ⟨rfl, hw1⟩)
  have HB1 := Aside0.mk (HB0.out.below hw1)
  have c2 : w1.cell? ⟨b, 2, none⟩ = some (.int .i64 s.left) := HB1.out.ln.cell 2 (by omega)
  clear hw1 HB0
  go_upto_region 5 with fail
  clear c2
  have c8 : w1.cell? ⟨b, 327, none⟩ = some (.int .u64 s.tail) := HB1.out.ln.cell 327 (by omega)
  have c9 : w1.cell? ⟨b, 328, none⟩ = some (.int .u64 s.epoch) := HB1.out.ln.cell 328 (by omega)
  have a8 : (w1.alloc (.cells #[.int .u64 0, .int .u64 0] 34)).cell? ⟨b, 327, none⟩ = some (.int .u64 s.tail) := (HB1.out.alloc _).ln.cell 327 (by omega)
  have a9 : (w1.alloc (.cells #[.int .u64 0, .int .u64 0] 34)).cell? ⟨b, 328, none⟩ = some (.int .u64 s.epoch) := (HB1.out.alloc _).ln.cell 328 (by omega)
  go_region
  have HB2 : Aside0 (Bd b s.mb w s [(w1.heap.size, .cells (aTick s.tail s.epoch) 34), (w.heap.size, .cells (aTick 0 0) 34)] (w1.alloc (.cells (aTick s.tail s.epoch) 34)).drew) := ⟨(HB1.out.alloc _).below (Below.refl _ _).drew⟩
  have hne : w1.heap.size ≠ w.heap.size := by
    have := (Array.getElem?_eq_some_iff.1 (HB1.out.obj _ List.mem_cons_self).1).1
    simp only at this; omega
  clear c8 c9 a8 a9 HB1
  generalize (w1.alloc (.cells (aTick s.tail s.epoch) 34)).drew = w2 at HB2 ⊢
  generalize w1.heap.size = g at HB2 hne ⊢
  have c8 : w2.cell? ⟨b, 327, none⟩ = some (.int .u64 s.tail) := HB2.out.ln.cell 327 (by omega)
  go_upto_region 7 with (first | (go_at_call 35; refine (at_calls b s s.tail HT.out HP.out _ HB2.out.ln).mono ?_; rintro e1 w3 ⟨rfl, hw3⟩; have HB3 := Aside0.mk (HB2.out.below hw3); clear hw3) | ((with_reducible refine gate_store (t := 63) (p := 33) rfl ?_); refine store_ln rfl 63 (.tmp 33) (.tmp 32) rfl b (4 + (s.tail % s.size).toNat * 5) #[.int .i64 1, .int .i64 0, .int .u64 0, .int .i64 0, .int .i64 0] s rfl rfl HB3.out.ln (by have := pl_lt HP.out s.tail; unfold pl at this; simp; omega) (by kernel_rfl) (by kernel_rfl) ?_; intro w4 hw4))
  have HB4 : Aside0 (Bd b s.mb w { s with ring := upd s.ring (pl s s.tail) ⟨1, 0, 0, 0, 0⟩ } [(g, .cells (aTick s.tail s.epoch) 34), (w.heap.size, .cells (aTick 0 0) 34)] w4) := ⟨by
    rw [hw4]
    exact HB3.out.ent (pl s s.tail) (pl_lt HP.out _) ⟨1, 0, 0, 0, 0⟩ 0 _ (by simp) (fun j hj => by
      have : j = 0 ∨ j = 1 ∨ j = 2 ∨ j = 3 ∨ j = 4 := by omega
      rcases this with rfl | rfl | rfl | rfl | rfl <;> rfl)⟩
  clear HB3 HB2 hw4 c8
  have c8 : w4.cell? ⟨b, 327, none⟩ = some (.int .u64 s.tail) := HB4.out.ln.cell 327 (by omega)
  have f8 : w4.frozen? ⟨b, 327, none⟩ = false := HB4.out.ln.frozen 327
  go_upto_region 8 with fail
  have HB5 := Aside0.mk (HB4.out.lane1 327 (.int .u64 (IntKind.u64.wrap (s.tail + 1))) (by omega) (lval_tail _ _) rfl rfl rfl)
  clear HB4 c8 f8
  generalize w4.setCell ⟨b, 327, none⟩ (.int .u64 (IntKind.u64.wrap (s.tail + 1))) = w5 at HB5 ⊢
  have c2 : w5.cell? ⟨b, 2, none⟩ = some (.int .i64 s.left) := HB5.out.ln.cell 2 (by omega)
  have f2 : w5.frozen? ⟨b, 2, none⟩ = false := HB5.out.ln.frozen 2
  have hw : wrap64 (s.left - 1) = s.left - 1 := by have := HL0.out; have := HL64.out; unfold wrap64; omega
  go_upto_region 9 with fail
  have HB6 := Aside0.mk (HB5.out.lane1 2 (.int .i64 (s.left - 1)) (by omega) (lval_left _ _) rfl rfl rfl)
  clear HB5 c2 f2
  generalize w5.setCell ⟨b, 2, none⟩ (.int .i64 (s.left - 1)) = w6 at HB6 ⊢
  have g0 : w6.cell? ⟨g, 0, none⟩ = some (.int .u64 s.tail) := (HB6.out.ptr List.mem_cons_self 0).1
  have g1 : w6.cell? ⟨g, 1, none⟩ = some (.int .u64 s.epoch) := (HB6.out.ptr List.mem_cons_self 1).1
  have hg := HB6.out.obj (g, _) List.mem_cons_self
  have hr := HB6.out.obj (w.heap.size, _) (List.mem_cons_of_mem _ List.mem_cons_self)
  go_wp2_with (first | ((with_reducible refine gate_store (t := 34) (p := 2) rfl ?_); refine store_blk rfl 34 (.tmp 2) (.tmp 48) rfl w.heap.size 0 (aTick s.tail s.epoch) (aTick 0 0) 34 rfl rfl hr.1 (by simp) (by kernel_rfl) (by kernel_rfl) ?_; intro w7 hw7 hr7; have HW7 := Aside0.mk hw7; clear hw7 hr7))
  have HB7 : Aside0 (Bd b s.mb w (claimS s) [(w.heap.size, .cells (aTick s.tail s.epoch) 34)] w7) := ⟨by
    rw [HW7.out]
    exact HB6.out.box w.heap.size (aTick 0 0) 34 (List.mem_cons_of_mem _ List.mem_cons_self) 0 _ (fun p hp => Or.inl (by rw [List.mem_singleton.1 hp]; rfl))⟩
  exact bodyPost_ret (res_ct (t := 34) rfl rfl rfl (HB7.out.obj _ List.mem_cons_self).1 Try.underlying34 rfl (by kernel_rfl)) rfl ⟨rfl, HB7.out.ln, HB7.out.far⟩
end Go.Proofs.Ytglekbbdbnpohaa.QLn
