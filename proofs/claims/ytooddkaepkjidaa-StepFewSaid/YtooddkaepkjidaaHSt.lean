/- Step: the world of the statements, its methods, walked by hand. -/
import Derived.Test.YtooddkaepkjidaaQStx1
import Derived.Lib.Hide
import Derived.RangeFuncBox
import Derived.Handy
import Derived.Deep.MidRow
import Derived.RegionTactic
namespace Go.Proofs.Ytooddkaepkjidaa.QSt
open Go.RowKit Go.Proofs.YtooddkaepkjidaaW.PrintWords Go.Proofs.YtooddkaepkjidaaW.PrintLast Go.Proofs.YtooddkaepkjidaaW.PrintMore
set_option linter.unusedVariables false
set_option linter.unusedSimpArgs false

/-! ### Blocks of many cells -/
def setAll (cur : Array Value) (o : Nat) : List Value → Array Value
  | [] => cur
  | v :: vs => setAll (cur.setIfInBounds o v) (o + 1) vs
theorem blk_setCells {g : Nat} {t : TypeId} : ∀ (vs : List Value) (o : Nat) (cur : Array Value) (w : World), w.heap[g]? = some (.cells cur t (0, 0)) → (w.setCells g o vs).heap[g]? = some (.cells (setAll cur o vs) t (0, 0))
  | [], _, _, _, h => h
  | v :: vs, o, cur, w, h => blk_setCells vs (o + 1) (cur.setIfInBounds o v) (w.setCell ⟨g, o, none⟩ v) (blk_set h o v)
theorem below_setCells {B g : Nat} {w0 : World} (hg : B ≤ g) : ∀ (vs : List Value) (o : Nat) (w : World), Below B w0 w → Below B w0 (w.setCells g o vs)
  | [], _, _, h => h
  | v :: vs, o, w, h => below_setCells hg vs (o + 1) (w.setCell ⟨g, o, none⟩ v) (h.setCell (p := ⟨g, o, none⟩) hg v)
theorem own_setCells {g base size n : Nat} {e : TypeId} {v : Value} {xs : List Value} (hne : some g ≠ v.ownBlock) : ∀ (vs : List Value) (o : Nat) (w : World), w.ownsRow base e size v n xs → (w.setCells g o vs).ownsRow base e size v n xs
  | [], _, _, h => h
  | u :: vs, o, w, h => own_setCells hne vs (o + 1) (w.setCell ⟨g, o, none⟩ u) (own_setCell h (p := ⟨g, o, none⟩) hne u)
theorem there_of_block {w : World} {b : Nat} {cs : Array Value} {t : TypeId} (h : w.heap[b]? = some (.cells cs t (0, 0))) (o n : Nat) (hn : o + n ≤ cs.size) : w.there b o n := fun j hj => by
  have hlt : o + j < cs.size := by omega
  constructor
  · simp [World.cell?, h, hlt]
  · simp [World.frozen?, h]
theorem own_ne {w : World} {base size n g : Nat} {e t : TypeId} {v : Value} {xs : List Value} {cs : Array Value} (h : w.ownsRow base e size v n xs) (hg : w.heap[g]? = some (.cells cs t (0, 0))) (hte : t ≠ e) : some g ≠ v.ownBlock := by
  intro he
  obtain ⟨cells, hc⟩ := own_typed h g he.symm
  rw [hg] at hc
  injection hc with hc
  injection hc with _ hc
  exact hte hc

/-- What is no row of micro-steps and not the world is as it was. -/
def KB (B : Nat) (w w' : World) : Prop := ∀ k cs t, k ≠ B → t ≠ 27 → w.heap[k]? = some (.cells cs t (0, 0)) → w'.heap[k]? = some (.cells cs t (0, 0))
theorem KB.refl (B : Nat) (w : World) : KB B w w := fun _ _ _ _ _ h => h
theorem KB.trans {B : Nat} {a b c : World} (h : KB B a b) (h' : KB B b c) : KB B a c := fun k cs t hk ht hc => h' k cs t hk ht (h k cs t hk ht hc)
theorem KB.of_below {B : Nat} {w w' : World} (h : Below w.heap.size w w') : KB B w w' := fun k cs t hk ht hc => (h.block k (Array.getElem?_eq_some_iff.1 hc).1).trans hc
theorem KB.alloc {B : Nat} {w w' : World} (h : KB B w w') (o : Obj) : KB B w (w'.alloc o) := h.trans (KB.of_below (below_alloc (Below.refl _ _) o))
theorem far_setCells {g k : Nat} (hne : k ≠ g) : ∀ (vs : List Value) (o : Nat) (w : World), (w.setCells g o vs).heap[k]? = w.heap[k]?
  | [], _, _ => rfl
  | v :: vs, o, w => (far_setCells hne vs (o + 1) (w.setCell ⟨g, o, none⟩ v)).trans (Below.heap_setCell w ⟨g, o, none⟩ v k hne)
theorem KB.set {B : Nat} {w w' : World} (h : KB B w w') (o : Nat) (v : Value) : KB B w (w'.setCell ⟨B, o, none⟩ v) := fun k cs t hk ht hc => (Below.heap_setCell w' ⟨B, o, none⟩ v k hk).trans (h k cs t hk ht hc)
theorem KB.sets {B : Nat} {w w' : World} (h : KB B w w') (o : Nat) (vs : List Value) : KB B w (w'.setCells B o vs) := fun k cs t hk ht hc => (far_setCells hk vs o w').trans (h k cs t hk ht hc)
theorem KB.grown {B base size n : Nat} {w W w' : World} {v : Value} {xs : List Value} (h : KB B w W) (hrow : W.ownsRow base 27 size v n xs) (hg : W.grownBy w' v.ownBlock) : KB B w w' := fun k cs t hk ht hc =>
  (hg.block k (Array.getElem?_eq_some_iff.1 (h k cs t hk ht hc)).1 (own_ne hrow (h k cs t hk ht hc) ht)).trans (h k cs t hk ht hc)

structure SOp where
  n : Int
  k : Int
  a : Int
  r : Int
  h : Int
  p : Int
  nx : Int
  ch : Int
  ln : Int
  sq : Int
  ep : Int
  pl : Int
structure SRep where
  c : Int
  a : Int
  h : Int
  p : Int
structure STold where
  rep : SRep
  op : SOp
  code : Int
  ready : Bool
abbrev vOp (o : SOp) : Value := .agg #[.int .i64 o.n, .int .u8 o.k, .int .u8 o.a, .int .u8 o.r, .int .u32 o.h, .int .u64 o.p, .int .i64 o.nx, .int .i64 o.ch, .int .i64 o.ln, .int .u64 o.sq, .int .u64 o.ep, .int .u64 o.pl]
abbrev cOp (o : SOp) : Array Value := #[.int .i64 o.n, .int .u8 o.k, .int .u8 o.a, .int .u8 o.r, .int .u32 o.h, .int .u64 o.p, .int .i64 o.nx, .int .i64 o.ch, .int .i64 o.ln, .int .u64 o.sq, .int .u64 o.ep, .int .u64 o.pl]
abbrev vRep (r : SRep) : Value := .agg #[.int .u8 r.c, .int .u8 r.a, .int .u32 r.h, .int .u64 r.p]
abbrev vTold (t : STold) : Value := .agg #[.int .u8 t.rep.c, .int .u8 t.rep.a, .int .u32 t.rep.h, .int .u64 t.rep.p, .int .i64 t.op.n, .int .u8 t.op.k, .int .u8 t.op.a, .int .u8 t.op.r, .int .u32 t.op.h, .int .u64 t.op.p, .int .i64 t.op.nx, .int .i64 t.op.ch, .int .i64 t.op.ln, .int .u64 t.op.sq, .int .u64 t.op.ep, .int .u64 t.op.pl, .int .u8 t.code, .bool t.ready]
def wCells (t : STold) (v : Value) (l : SOp) (a0 a1 rd : Int) : Array Value :=
  #[.int .u8 t.rep.c, .int .u8 t.rep.a, .int .u32 t.rep.h, .int .u64 t.rep.p, .int .i64 t.op.n, .int .u8 t.op.k, .int .u8 t.op.a, .int .u8 t.op.r, .int .u32 t.op.h, .int .u64 t.op.p, .int .i64 t.op.nx, .int .i64 t.op.ch, .int .i64 t.op.ln, .int .u64 t.op.sq, .int .u64 t.op.ep, .int .u64 t.op.pl, .int .u8 t.code, .bool t.ready, v,
    .int .i64 l.n, .int .u8 l.k, .int .u8 l.a, .int .u8 l.r, .int .u32 l.h, .int .u64 l.p, .int .i64 l.nx, .int .i64 l.ch, .int .i64 l.ln, .int .u64 l.sq, .int .u64 l.ep, .int .u64 l.pl, .int .i64 a0, .int .i64 a1, .int .i64 rd]

/-- The world of a statement: what it tells, what it was asked, and when. -/
structure WS where
  t : STold
  qs : List Int
  l : SOp
  a0 : Int
  a1 : Int
  rd : Int
def WW (B : Nat) (s : WS) (w : World) : Prop :=
  ∃ v, w.heap[B]? = some (.cells (wCells s.t v s.l s.a0 s.a1 s.rd) 51 (0, 0)) ∧ w.ownsRow B 27 1 v s.qs.length (nums .i64 s.qs)

/-- What lay below is as it was. -/
def WP (B : Nat) (w0 : World) (s : WS) (w : World) : Prop := Below B w0 w ∧ WW B s w

theorem op_cells {w : World} {b : Nat} {o : SOp} {t : TypeId} (h : w.heap[b]? = some (.cells (cOp o) t (0, 0))) :
    w.cell? ⟨b, 0, none⟩ = some (.int .i64 o.n) ∧ w.cell? ⟨b, 1, none⟩ = some (.int .u8 o.k) ∧ w.cell? ⟨b, 2, none⟩ = some (.int .u8 o.a) ∧ w.cell? ⟨b, 3, none⟩ = some (.int .u8 o.r) ∧ w.cell? ⟨b, 4, none⟩ = some (.int .u32 o.h) ∧ w.cell? ⟨b, 5, none⟩ = some (.int .u64 o.p) ∧ w.cell? ⟨b, 6, none⟩ = some (.int .i64 o.nx) ∧ w.cell? ⟨b, 7, none⟩ = some (.int .i64 o.ch) ∧ w.cell? ⟨b, 8, none⟩ = some (.int .i64 o.ln) ∧ w.cell? ⟨b, 9, none⟩ = some (.int .u64 o.sq) ∧ w.cell? ⟨b, 10, none⟩ = some (.int .u64 o.ep) ∧ w.cell? ⟨b, 11, none⟩ = some (.int .u64 o.pl) := by
  refine ⟨?_, ?_, ?_, ?_, ?_, ?_, ?_, ?_, ?_, ?_, ?_, ?_⟩ <;> simp [World.cell?, h]

theorem below_allocB {B : Nat} {w : World} (h : B < w.heap.size) (o : Obj) : Below B w (w.alloc o) := (Below.refl B w).alloc (by omega) o

set_option maxRecDepth 100000 in
set_option maxHeartbeats 1000000 in
theorem note_calls (B : Nat) (s : WS) (m : Int) (o : SOp) (w0 w : World) (h : WP B w0 s w) (hl : s.qs.length < 1000) :
    Calls Try.prog 54 #[.pointer (some ⟨B, 0, none⟩), .int .i64 m, vOp o] w fun e w' => e = .returned (.tuple #[]) ∧ WP B w0 { s with qs := s.qs ++ [m], l := o } w' ∧ KB B w w' := by
  obtain ⟨hb, v, hw, hrow⟩ := h
  obtain ⟨t, qs, l, a0, a1, rd⟩ := s
  dsimp only at hl hw hrow ⊢
  have HWs : Aside0 (B < w.heap.size) := ⟨(Array.getElem?_eq_some_iff.1 hw).1⟩
  have HWo := Aside0.mk hw
  have hw1 : (w.alloc (.cells (cOp o) 31)).heap[B]? = some (.cells (wCells t v l a0 a1 rd) 51 (0, 0)) := by rw [heap_alloc_old _ _ HWs.out]; exact hw
  have hbox : (w.alloc (.cells (cOp o) 31)).heap[w.heap.size]? = some (.cells (cOp o) 31 (0, 0)) := heap_alloc_new w _
  have h18 : (w.alloc (.cells (cOp o) 31)).cell? ⟨B, 18, none⟩ = some v := by simp [World.cell?, hw1, wCells]
  have HW := Aside0.mk hw1
  have HBOX := Aside0.mk hbox
  clear hw1 hbox
  dsimp only [cOp] at h18
  have HROW := Aside0.mk hrow
  have HB := Aside0.mk hb
  clear hb hw hrow
  go_enter Try.func54, Try.ntmps54
  go_wp2_with (first | ((with_reducible refine gate_builtin (b := .append) rfl ?_); at_builtin; refine print_append_num (w0 := w) B rfl (.tmp 10) (.tmp 12) 37 27 .i64 8 rfl Try.underlying37 info27 (by decide) v qs m rfl (by rw [World.size_alloc]; rfl) (HROW.out.alloc _) (below_allocB HWs.out _) (by rw [World.size_alloc]; have := HWs.out; omega) (by omega) ?_; intro v1 w2 hown hB2 hg2 hat; obtain ⟨g1, cap1, rfl⟩ := ownsRow_succ (k := qs.length) (by simpa using hown); have ROWB := own_ne HROW.out (HWo.out) (by decide); have hw2 : Aside0 (w2.heap[B]? = some (.cells (wCells t v l a0 a1 rd) 51 (0, 0))) := ⟨(hg2.block B (by rw [World.size_alloc]; have := HWs.out; omega) ROWB).trans HW.out⟩; have hbx2 : Aside0 (w2.heap[w.heap.size]? = some (.cells (cOp o) 31 (0, 0))) := ⟨(hg2.block _ (by rw [World.size_alloc]; omega) (own_ne (HROW.out.alloc _) HBOX.out (by decide))).trans HBOX.out⟩; have c18 : w2.cell? ⟨B, 18, none⟩ = some v := (by simp [World.cell?, hw2.out, wCells]); have f18 : w2.frozen? ⟨B, 18, none⟩ = false := (by simp [World.frozen?, hw2.out]); have HKB : Aside0 (KB B w w2) := ⟨((KB.refl B w).alloc _).grown (HROW.out.alloc _) hg2⟩; have HOWN := Aside0.mk hown; have HB2 := Aside0.mk hB2; obtain ⟨e0, e1, e2, e3, e4, e5, e6, e7, e8, e9, e10, e11⟩ := op_cells (w := w2.setCell ⟨B, 18, none⟩ (.slice (some ⟨g1, 0, none⟩) (qs.length + 1) cap1)) (blk_far hbx2.out (p := ⟨B, 18, none⟩) (by have := HWs.out; simp; omega) _); clear hown hB2 hg2 hat ROWB) | ((with_reducible refine gate_store (p := 19) (t := 31) rfl ?_); refine wpList_store_mid rfl 31 (.tmp 19) (.tmp 17) rfl B 19 (cOp o) rfl rfl (there_of_block (blk_set hw2.out 18 _) 19 12 (by simp [wCells])) (by kernel_rfl) (by simp [Value.oneCell']) ?_))
  refine bodyPost_end (results_none rfl _ _ _) rfl ?_
  have hne : some B ≠ (Value.slice (some ⟨g1, 0, none⟩) (qs.length + 1) cap1).ownBlock := own_ne HOWN.out hw2.out (by decide)
  have g1' := below_setCells (g := B) (Nat.le_refl _) (cOp o).toList 19 _ ((HB.out.trans HB2.out).setCell (p := ⟨B, 18, none⟩) (Nat.le_refl _) (.slice (some ⟨g1, 0, none⟩) (qs.length + 1) cap1))
  have g2' := blk_setCells (cOp o).toList 19 _ _ (blk_set hw2.out 18 (.slice (some ⟨g1, 0, none⟩) (qs.length + 1) cap1))
  have e : setAll ((wCells t v l a0 a1 rd).setIfInBounds 18 (.slice (some ⟨g1, 0, none⟩) (qs.length + 1) cap1)) 19 (cOp o).toList = wCells t (.slice (some ⟨g1, 0, none⟩) (qs.length + 1) cap1) o a0 a1 rd := by
    simp only [wCells, cOp, List.toList_toArray, setAll, List.setIfInBounds_toArray, List.set_cons_succ, List.set_cons_zero]
  rw [e] at g2'
  have g3' := own_setCells (g := B) hne (cOp o).toList 19 _ (own_setCell HOWN.out (p := ⟨B, 18, none⟩) hne (.slice (some ⟨g1, 0, none⟩) (qs.length + 1) cap1))
  exact ⟨rfl, ⟨g1', _, g2', g3'⟩, (HKB.out.set 18 _).sets 19 _⟩

theorem WP.alloc {B : Nat} {w0 w : World} {s : WS} (h : WP B w0 s w) (o : Obj) : WP B w0 s (w.alloc o) := by
  obtain ⟨hb, v, hw, hrow⟩ := h
  have hlt := (Array.getElem?_eq_some_iff.1 hw).1
  exact ⟨hb.alloc (by omega) o, v, (heap_alloc_old w o hlt).trans hw, hrow.alloc o⟩
theorem WP.below {B : Nat} {w0 w w' : World} {s : WS} (h : WP B w0 s w) (hb : Below w.heap.size w w') : WP B w0 s w' := by
  obtain ⟨h0, v, hw, hrow⟩ := h
  have hlt := (Array.getElem?_eq_some_iff.1 hw).1
  refine ⟨⟨hb.os.trans h0.os, hb.tape.trans h0.tape, hb.output.trans h0.output, Nat.le_trans h0.size hb.size, fun k hk => (hb.block k (by omega)).trans (h0.block k hk)⟩, v, (hb.block B hlt).trans hw, pw_own_below hrow hb⟩
theorem WP.drewN {B : Nat} {w0 w : World} {s : WS} (h : WP B w0 s w) (n : Nat) : WP B w0 s (w.drewN n) := h.below (pw_below_drewN (Below.refl _ _) n)

set_option maxRecDepth 100000 in
set_option maxHeartbeats 1000000 in
theorem Write_calls (B : Nat) (s : WS) (o : SOp) (w0 w : World) (h : WP B w0 s w) (hl : s.qs.length < 1000) :
    Calls Try.prog 53 #[.pointer (some ⟨B, 0, none⟩), vOp o] w fun e w' => e = .returned (.tuple #[]) ∧ WP B w0 { s with qs := s.qs ++ [3], l := o } w' ∧ KB B w w' := by
  have H := Aside0.mk h
  clear h
  go_enter Try.func53, Try.ntmps53
  go_wp2_with (go_at_call 54; refine (note_calls B s 3 o w0 _ (H.out.alloc _) hl).mono ?_; rintro e w1 ⟨rfl, hw1, hk1⟩; have H1 := Aside0.mk hw1; have K1 : Aside0 (KB B w w1) := ⟨((KB.refl B w).alloc _).trans hk1⟩; clear hw1 hk1)
  refine bodyPost_end (results_none rfl _ _ _) rfl ?_
  exact ⟨rfl, H1.out, K1.out⟩

set_option maxRecDepth 100000 in
set_option maxHeartbeats 1000000 in
theorem Retire_calls (B : Nat) (s : WS) (o : SOp) (w0 w : World) (h : WP B w0 s w) (hl : s.qs.length < 1000) :
    Calls Try.prog 51 #[.pointer (some ⟨B, 0, none⟩), vOp o] w fun e w' => e = .returned (.tuple #[]) ∧ WP B w0 { s with qs := s.qs ++ [6], l := o } w' ∧ KB B w w' := by
  have H := Aside0.mk h
  clear h
  go_enter Try.func51, Try.ntmps51
  go_wp2_with (go_at_call 54; refine (note_calls B s 6 o w0 _ (H.out.alloc _) hl).mono ?_; rintro e w1 ⟨rfl, hw1, hk1⟩; have H1 := Aside0.mk hw1; have K1 : Aside0 (KB B w w1) := ⟨((KB.refl B w).alloc _).trans hk1⟩; clear hw1 hk1)
  refine bodyPost_end (results_none rfl _ _ _) rfl ?_
  exact ⟨rfl, H1.out, K1.out⟩
set_option maxRecDepth 100000 in
set_option maxHeartbeats 2000000 in
theorem over_calls (o : SOp) (r : SRep) (w : World) :
    Calls Try.prog 29 #[vOp o, vRep r] w fun e w' => e = .returned (.tuple #[vOp { o with nx := 7 }, vRep r, .bool true]) ∧ Below w.heap.size w w' := by
  go_enter Try.func29, Try.ntmps29
  go_wp2
  go_region
  go_wp2
  go_returns
  refine ⟨?_, ?_⟩
  · rfl
  · repeat (first | exact Below.refl _ _ | apply below_alloc | apply pw_below_drewN | apply below_drew1)

/-! ### Stores of structs -/
section
variable {P : Program}
theorem store_blk {ops : Array Oper} {rest : List Oper} {op : Oper} {a : Act} {w : World} {Q : Exit → Act → World → Prop} (hgd : op.guard = none) (ty : TypeId) (x y : Operand) (ho : op.op = .store ty x y)
    (g o : Nat) (cells cur : Array Value) (t : TypeId) (hx : a.eval x = .pointer (some ⟨g, o, none⟩)) (hy : a.eval y = .agg cells)
    (hw : w.heap[g]? = some (.cells cur t (0, 0))) (hsz : o + cells.size ≤ cur.size) (hi : (P.info? ty).map (·.size) = some cells.size) (h1 : cells.all (·.oneCell') = true)
    (h : ∀ w', w' = w.setCells g o cells.toList → w'.heap[g]? = some (.cells (setAll cur o cells.toList) t (0, 0)) → wpList P ops Q rest (a.put op.dst undef) w') : wpList P ops Q (op :: rest) a w :=
  wpList_store_mid hgd ty x y ho g o cells hx hy (there_of_block hw o _ hsz) hi h1 (h _ rfl (blk_setCells _ _ _ _ hw))
end
theorem WP.other {B g : Nat} {w0 w : World} {s : WS} (h : WP B w0 s w) {cs : Array Value} {t : TypeId} (hg : w.heap[g]? = some (.cells cs t (0, 0))) (ht : t ≠ 27) (hne : B < g) (o : Nat) (vs : List Value) : WP B w0 s (w.setCells g o vs) := by
  obtain ⟨hb, v, hw, hrow⟩ := h
  exact ⟨below_setCells (by omega) vs o w hb, v, (far_setCells (by omega) vs o w).trans hw, own_setCells (own_ne hrow hg ht) vs o w hrow⟩
theorem KB.other {B g : Nat} {w w1 : World} (h : KB B w w1) (hg : w.heap.size ≤ g) (o : Nat) (vs : List Value) : KB B w (w1.setCells g o vs) := fun k cs t hk ht hc =>
  (far_setCells (by have := (Array.getElem?_eq_some_iff.1 hc).1; omega) vs o w1).trans (h k cs t hk ht hc)
theorem rep_cells {w : World} {b : Nat} {r : SRep} {t : TypeId} (h : w.heap[b]? = some (.cells #[.int .u8 r.c, .int .u8 r.a, .int .u32 r.h, .int .u64 r.p] t (0, 0))) :
    w.cell? ⟨b, 0, none⟩ = some (.int .u8 r.c) ∧ w.cell? ⟨b, 1, none⟩ = some (.int .u8 r.a) ∧ w.cell? ⟨b, 2, none⟩ = some (.int .u32 r.h) ∧ w.cell? ⟨b, 3, none⟩ = some (.int .u64 r.p) := by
  refine ⟨?_, ?_, ?_, ?_⟩ <;> simp [World.cell?, h]
theorem two_cells {w : World} {b : Nat} {x y : Value} {t : TypeId} (h : w.heap[b]? = some (.cells #[x, y] t (0, 0))) : w.cell? ⟨b, 0, none⟩ = some x ∧ w.cell? ⟨b, 1, none⟩ = some y := by
  refine ⟨?_, ?_⟩ <;> simp [World.cell?, h]
theorem WP.lt {B : Nat} {w0 w : World} {s : WS} (h : WP B w0 s w) : B < w.heap.size := by
  obtain ⟨hb, v, hw, hrow⟩ := h
  exact (Array.getElem?_eq_some_iff.1 hw).1

/-- The stamp that the world notes. -/
theorem WP.stamp {B : Nat} {w0 w : World} {s : WS} (h : WP B w0 s w) (x y : Int) : WP B w0 { s with a0 := x, a1 := y } (w.setCells B 31 [.int .i64 x, .int .i64 y]) := by
  obtain ⟨hb, v, hw, hrow⟩ := h
  refine ⟨below_setCells (Nat.le_refl _) _ _ _ hb, v, (blk_setCells _ _ _ _ hw).trans ?_, own_setCells (own_ne hrow hw (by decide)) _ _ _ hrow⟩
  simp only [wCells, setAll, List.setIfInBounds_toArray, List.set_cons_succ, List.set_cons_zero]

end Go.Proofs.Ytooddkaepkjidaa.QSt
