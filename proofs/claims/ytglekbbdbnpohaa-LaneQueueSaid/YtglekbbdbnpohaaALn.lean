/- Lane: blocks of many cells; the lane's struct in memory. -/
import Derived.Test.YtglekbbdbnpohaaQLnx1
import Derived.Test.YtglekbbdbnpohaaLPow
import Derived.Lib.Hide
import Derived.RangeFuncBox
import Derived.Handy
import Derived.Deep.MidRow
import Derived.RegionTactic
import Derived.Deep.RegionHeld3
import Derived.Maps.RangeWalk
import Derived.Maps.OwnSet
namespace Go.Proofs.Ytglekbbdbnpohaa.QLn
open Go.RowKit Go.Proofs.YtglekbbdbnpohaaW.PrintWords Go.Proofs.YtglekbbdbnpohaaW.PrintLast Go.Proofs.YtglekbbdbnpohaaW.PrintMore
open Go.Proofs.Ytglekbbdbnpohaa.LPow
set_option linter.unusedVariables false
set_option linter.unusedSimpArgs false

/-! ### Blocks of many cells -/
def setAll (cur : Array Value) (o : Nat) : List Value → Array Value
  | [] => cur
  | v :: vs => setAll (cur.setIfInBounds o v) (o + 1) vs
theorem blk_setCells {g : Nat} {t : TypeId} : ∀ (vs : List Value) (o : Nat) (cur : Array Value) (w : World), w.heap[g]? = some (.cells cur t (0, 0)) → (w.setCells g o vs).heap[g]? = some (.cells (setAll cur o vs) t (0, 0))
  | [], _, _, _, h => h
  | v :: vs, o, cur, w, h => blk_setCells vs (o + 1) (cur.setIfInBounds o v) (w.setCell ⟨g, o, none⟩ v) (blk_set h o v)
theorem below_setCells {B g : Nat} {w0 : World} (hg : B ≤ g) : ∀ (vs : List Value) (o : Nat) (w : World), Below B w0 w → Below B w0 (w.setCells g o vs)
  | [], _, _, h => h
  | v :: vs, o, w, h => below_setCells hg vs (o + 1) (w.setCell ⟨g, o, none⟩ v) (h.setCell (p := ⟨g, o, none⟩) hg v)
theorem own_setCells {g base size n : Nat} {e : TypeId} {v : Value} {xs : List Value} (hne : some g ≠ v.ownBlock) : ∀ (vs : List Value) (o : Nat) (w : World), w.ownsRow base e size v n xs → (w.setCells g o vs).ownsRow base e size v n xs
  | [], _, _, h => h
  | u :: vs, o, w, h => own_setCells hne vs (o + 1) (w.setCell ⟨g, o, none⟩ u) (own_setCell h (p := ⟨g, o, none⟩) hne u)
theorem there_of_block {w : World} {b : Nat} {cs : Array Value} {t : TypeId} (h : w.heap[b]? = some (.cells cs t (0, 0))) (o n : Nat) (hn : o + n ≤ cs.size) : w.there b o n := fun j hj => by
  have hlt : o + j < cs.size := by omega
  constructor
  · simp [World.cell?, h, hlt]
  · simp [World.frozen?, h]
theorem own_ne {w : World} {base size n g : Nat} {e t : TypeId} {v : Value} {xs : List Value} {cs : Array Value} (h : w.ownsRow base e size v n xs) (hg : w.heap[g]? = some (.cells cs t (0, 0))) (hte : t ≠ e) : some g ≠ v.ownBlock := by
  intro he
  obtain ⟨cells, hc⟩ := own_typed h g he.symm
  rw [hg] at hc
  injection hc with hc
  injection hc with _ hc
  exact hte hc

theorem far_setCells {g k : Nat} (hne : k ≠ g) : ∀ (vs : List Value) (o : Nat) (w : World), (w.setCells g o vs).heap[k]? = w.heap[k]?
  | [], _, _ => rfl
  | v :: vs, o, w => (far_setCells hne vs (o + 1) (w.setCell ⟨g, o, none⟩ v)).trans (Below.heap_setCell w ⟨g, o, none⟩ v k hne)
/-! ### Stores of structs -/
section
variable {P : Program}
theorem store_blk {ops : Array Oper} {rest : List Oper} {op : Oper} {a : Act} {w : World} {Q : Exit → Act → World → Prop} (hgd : op.guard = none) (ty : TypeId) (x y : Operand) (ho : op.op = .store ty x y)
    (g o : Nat) (cells cur : Array Value) (t : TypeId) (hx : a.eval x = .pointer (some ⟨g, o, none⟩)) (hy : a.eval y = .agg cells)
    (hw : w.heap[g]? = some (.cells cur t (0, 0))) (hsz : o + cells.size ≤ cur.size) (hi : (P.info? ty).map (·.size) = some cells.size) (h1 : cells.all (·.oneCell') = true)
    (h : ∀ w', w' = w.setCells g o cells.toList → w'.heap[g]? = some (.cells (setAll cur o cells.toList) t (0, 0)) → wpList P ops Q rest (a.put op.dst undef) w') : wpList P ops Q (op :: rest) a w :=
  wpList_store_mid hgd ty x y ho g o cells hx hy (there_of_block hw o _ hsz) hi h1 (h _ rfl (blk_setCells _ _ _ _ hw))
end
section
variable {P : Program}
theorem range_blk {w : World} {g : Nat} {C : Array Value} {t : TypeId} (hw : w.heap[g]? = some (.cells C t (0, 0))) : w.rangeAt g 0 C.toList := by
  have := World.rangeAt_of_block hw 0 C.size
  simpa using this
theorem load_blk {ops : Array Oper} {rest : List Oper} {op : Oper} {a : Act} {w : World} {Q : Exit → Act → World → Prop} (hgd : op.guard = none) (ty : TypeId) (x : Operand) (ho : op.op = .load ty x)
    (g : Nat) (C : Array Value) (t : TypeId) (hx : a.eval x = .pointer (some ⟨g, 0, none⟩)) (d : TypeDesc) (hw : w.heap[g]? = some (.cells C t (0, 0)))
    (hu : P.underlying ty = some d) (hd : d.isRow = true) (hi : (P.info? ty).map (·.size) = some C.size)
    (h : wpList P ops Q rest (a.put op.dst (.agg C)) w) : wpList P ops Q (op :: rest) a w :=
  wpList_load_mid hgd ty x ho g 0 hx C.toList d (range_blk hw) hu hd (by simpa using hi) h
theorem yields_blk {ops : Array Oper} {S : World → Prop} {op : Oper} {a : Act} (hw : Region.wanted op (yielded ops a.tmps) = true) (ty : TypeId) (x : Operand) (ho : op.op = .load ty x)
    (g : Nat) (C : Array Value) (t : TypeId) (hx : a.eval x = .pointer (some ⟨g, 0, none⟩)) (d : TypeDesc) (hS : ∀ w, S w → w.heap[g]? = some (.cells C t (0, 0)))
    (hu : P.underlying ty = some d) (hd : d.isRow = true) (hi : (P.info? ty).map (·.size) = some C.size) : YieldsIf P ops S op (.agg C) a :=
  yieldsIf_load_mid hw ty x ho g 0 hx C.toList d (fun w h => range_blk (hS w h)) hu hd (by simpa using hi)
theorem take_at {ops : Array Oper} {Q : Exit → Act → World → Prop} {md : Region.Mode} {S : World → Prop} {i : Nat} {oi : Oper} {v : Value} {fuel : Nat} {listed : Array Bool} {a : Act} {w : World} (n : Nat) (hi : ops[i]? = some oi) (hd : oi.dst = some n)
    (hs : Region.noSelect ops = true) (hf : Region.free md ops listed i = true) (hr : (Region.ready md ops listed).contains i = true)
    (hQ : ∀ c a w, Q (.panic c) (a.put (some n) v) w → Q (.panic c) a w) (hy : YieldsIf P ops S oi v a) (hS : S w)
    (h : wpAnyH P md ops Q S fuel (listed.setIfInBounds i true) (a.put (some n) v) w) : wpAnyH P md ops Q S (fuel + 1) listed a w :=
  wpAnyH_take hi hs hf hr (by rw [hd]; exact hQ) hy hS (by rw [hd]; exact h)
theorem store_at {op : Oper} {a : Act} {w : World} {K : Act → World → Prop} {Q : Exit → Act → World → Prop} (hd : op.dst = none) (ty : TypeId) (x y : Operand) (ho : op.op = .store ty x y)
    (b o : Nat) (cells : Array Value) (hx : a.eval x = .pointer (some ⟨b, o, none⟩)) (hy : a.eval y = .agg cells)
    (ht : w.there b o cells.size) (hi : (P.info? ty).map (·.size) = some cells.size) (h1 : cells.all (·.oneCell') = true)
    (h : K a (w.setCells b o cells.toList)) : op.wp P a w K Q :=
  wp_store_mid ty x y ho b o cells hx hy ht hi h1 (by rw [hd]; exact h)
end
section
variable {P : Program}
theorem run_load_any (w : World) (ad : Addr) (ty : TypeId) (cs : List Value) (d : TypeDesc) (hc : ∀ j v, cs[j]? = some v → w.cell? (ad.add j) = some v)
    (hu : P.underlying ty = some d) (hd : d.isRow = true) (hi : (P.info? ty).map (·.size) = some cs.length) : (loadVar ty ad).run P w = .ok (.agg cs.toArray) w := by
  have hl : (loadCells ad cs.length).run P w = .ok cs.toArray w := run_loadCells_list (P := P) w ad cs hc
  cases hq : P.info? ty with
  | none => simp [hq] at hi
  | some i =>
    have hs : i.size = cs.length := by simpa [hq] using hi
    have hagg : (isAgg ty).run P w = .ok true w := by
      unfold isAgg
      rw [Sem.run_bind, run_underlying hu w]
      cases d <;> simp_all
    simp [loadVar, Sem.run_bind, hagg, sizeOf, typeInfo, hq, hs, hl]
theorem load_any {ops : Array Oper} {rest : List Oper} {op : Oper} {a : Act} {w : World} {Q : Exit → Act → World → Prop} (hgd : op.guard = none) (ty : TypeId) (x : Operand) (ho : op.op = .load ty x)
    (ad : Addr) (hx : a.eval x = .pointer (some ad)) (C : Array Value) (d : TypeDesc) (hc : ∀ j v, C.toList[j]? = some v → w.cell? (ad.add j) = some v)
    (hu : P.underlying ty = some d) (hd : d.isRow = true) (hi : (P.info? ty).map (·.size) = some C.size)
    (h : wpList P ops Q rest (a.put op.dst (.agg C)) w) : wpList P ops Q (op :: rest) a w :=
  wpList_plain hgd fun _ hK => by
    unfold Oper.wp execOp
    simp only [ho, hx, Instr.loadAt, Instr.sureAddr, Sem.run_bind, Sem.run_pure, Result.andThen_ok, run_load_any w ad ty C.toList d hc hu hd (by simpa using hi)]
    exact hK _ _ h
end
theorem add_add' (a : Addr) (m n : Nat) : (a.add m).add n = a.add (m + n) := by
  unfold Addr.add
  by_cases hm : m = 0
  · subst hm; simp
  · by_cases hn : n = 0
    · subst hn; simp
    · have : m + n ≠ 0 := by omega
      simp [hm, hn, this, Nat.add_assoc]
theorem obj_below {w w' : World} {g : Nat} {C : Obj} (hb : Below w.heap.size w w') (h : w.heap[g]? = some C) : w'.heap[g]? = some C := (hb.block _ (Array.getElem?_eq_some_iff.1 h).1).trans h
theorem range_below {w w' : World} {b o : Nat} {cs : List Value} (hb : Below w.heap.size w w') (h : w.rangeAt b o cs) : w'.rangeAt b o cs := fun j v hv => pw_cell_below hb (h j v hv)

/-! ### Nothing but two blocks -/
structure Far (b m : Nat) (w w' : World) : Prop where
  os : w'.os = w.os
  tape : w'.tape = w.tape
  output : w'.output = w.output
  size : w.heap.size ≤ w'.heap.size
  block : ∀ i, i < w.heap.size → i ≠ b → i ≠ m → w'.heap[i]? = w.heap[i]?
theorem Far.refl (b m : Nat) (w : World) : Far b m w w := ⟨rfl, rfl, rfl, Nat.le_refl _, fun _ _ _ _ => rfl⟩
theorem Far.trans {b m : Nat} {u v w : World} (h : Far b m u v) (k : Far b m v w) : Far b m u w :=
  ⟨k.os.trans h.os, k.tape.trans h.tape, k.output.trans h.output, Nat.le_trans h.size k.size, fun i hi h1 h2 => (k.block i (Nat.lt_of_lt_of_le hi h.size) h1 h2).trans (h.block i hi h1 h2)⟩
theorem Far.of_below {b m : Nat} {w w' : World} (h : Below w.heap.size w w') : Far b m w w' := ⟨h.os, h.tape, h.output, h.size, fun i hi _ _ => h.block i hi⟩
theorem Far.setCell {b m : Nat} {w0 w : World} (h : Far b m w0 w) (o : Nat) (v : Value) : Far b m w0 (w.setCell ⟨b, o, none⟩ v) :=
  h.trans ⟨rfl, rfl, rfl, by simp [World.setCell], fun i _ h1 _ => Below.heap_setCell _ _ _ _ h1⟩
theorem Far.setCells {b m : Nat} {w0 : World} : ∀ (vs : List Value) (o : Nat) (w : World), Far b m w0 w → Far b m w0 (w.setCells b o vs)
  | [], _, _, h => h
  | v :: vs, o, w, h => Far.setCells vs (o + 1) (w.setCell ⟨b, o, none⟩ v) (h.setCell o v)
theorem Far.grown {b m : Nat} {w0 w w' : World} (h : Far b m w0 w) (hg : w.grownBy w' (some m)) : Far b m w0 w' :=
  h.trans ⟨hg.os, hg.tape, hg.output, hg.size, fun i hi _ h2 => hg.block i hi (fun e => h2 (by cases e; rfl))⟩
theorem Far.up {b m B : Nat} {w0 w w' : World} (h : Below B w0 w) (hB : B ≤ w.heap.size) (hb : B ≤ b) (hm : B ≤ m) (k : Far b m w w') : Below B w0 w' :=
  h.trans ⟨k.os, k.tape, k.output, k.size, fun i hi => k.block i (by omega) (by omega) (by omega)⟩

/-! ### The lane's struct -/
structure Ent where
  is : Int
  n : Int
  g : Int
  tk : Int
  st : Int
def Ent.at (e : Ent) : Nat → Value
  | 0 => .int .i64 e.is
  | 1 => .int .i64 e.n
  | 2 => .int .u64 e.g
  | 3 => .int .i64 e.tk
  | _ => .int .i64 e.st
structure Past where
  n : Int
  g : Int
  held : Bool
  deriving DecidableEq
def Past.v (p : Past) : Value := .agg #[.int .i64 p.n, .int .u64 p.g, .bool p.held]
def Rp : Value → Option (DataW Past × List MemPlace)
  | .agg ⟨[.int .i64 n, .int .u64 g, .bool h]⟩ => some (.held ⟨n, g, h⟩, [])
  | _ => none
theorem Rp_v (p : Past) : Rp p.v = some (.held p, []) := rfl
theorem Rp_inv {v : Value} {y : DataW Past × List MemPlace} (h : Rp v = some y) : ∃ p : Past, v = p.v ∧ y = (.held p, []) := by
  unfold Rp at h
  split at h
  · rename_i n g hh
    cases h
    exact ⟨⟨n, g, hh⟩, rfl, rfl⟩
  · cases h
structure LS where
  credit : Int
  two : Bool
  left : Int
  size : Int
  ring : Nat → Ent
  base : Int
  head : Int
  ready : Int
  tail : Int
  epoch : Int
  mb : Nat
  n : Nat
  D : DataW Past
def lval (s : LS) (k : Nat) : Value :=
  if k = 0 then .int .i64 s.credit else if k = 1 then .bool s.two else if k = 2 then .int .i64 s.left else if k = 3 then .int .i64 s.size
  else if k < 324 then (s.ring ((k - 4) / 5)).at ((k - 4) % 5)
  else if k = 324 then .int .u64 s.base else if k = 325 then .int .u64 s.head else if k = 326 then .int .u64 s.ready else if k = 327 then .int .u64 s.tail
  else if k = 328 then .int .u64 s.epoch else .map (some s.mb)
def LV (A : Array Value) (s : LS) : Prop := A.size = 330 ∧ ∀ k, k < 330 → A[k]? = some (lval s k)
theorem get_setAll : ∀ (vs : List Value) (A : Array Value) (o j : Nat), o + vs.length ≤ A.size → (setAll A o vs)[j]? = if o ≤ j ∧ j < o + vs.length then vs[j - o]? else A[j]?
  | [], A, o, j, h => by
    rw [if_neg (by simp <;> omega), QLn.setAll]
  | v :: vs, A, o, j, h => by
    simp only [List.length_cons] at h ⊢
    show (setAll (A.setIfInBounds o v) (o + 1) vs)[j]? = _
    rw [get_setAll vs (A.setIfInBounds o v) (o + 1) j (by rw [Array.size_setIfInBounds]; omega)]
    by_cases h1 : o + 1 ≤ j ∧ j < o + 1 + vs.length
    · rw [if_pos h1, if_pos (by omega), show j - o = (j - (o + 1)) + 1 by omega, List.getElem?_cons_succ]
    · rw [if_neg h1, Array.getElem?_setIfInBounds]
      by_cases h2 : o = j
      · subst h2
        rw [if_pos rfl, if_pos (by omega), if_pos (by omega), Nat.sub_self]; rfl
      · rw [if_neg h2, if_neg (by omega)]
theorem size_setAll : ∀ (vs : List Value) (A : Array Value) (o : Nat), (setAll A o vs).size = A.size
  | [], _, _ => rfl
  | v :: vs, A, o => (size_setAll vs _ _).trans (Array.size_setIfInBounds ..)
theorem LV.setAll {A : Array Value} {s s' : LS} (h : LV A s) (o : Nat) (vs : List Value) (ho : o + vs.length ≤ 330)
    (hv : ∀ j, j < 330 → some (lval s' j) = if o ≤ j ∧ j < o + vs.length then vs[j - o]? else some (lval s j)) : LV (QLn.setAll A o vs) s' := by
  refine ⟨(size_setAll _ _ _).trans h.1, fun k hk => ?_⟩
  rw [get_setAll vs A o k (by rw [h.1]; exact ho), hv k hk]
  split
  · rfl
  · exact h.2 k hk
theorem LV.set {A : Array Value} {s s' : LS} (h : LV A s) (o : Nat) (v : Value) (ho : o < 330) (hv : ∀ j, j < 330 → lval s' j = if j = o then v else lval s j) : LV (A.setIfInBounds o v) s' := by
  refine LV.setAll h o [v] (by simp; omega) (fun j hj => ?_)
  rw [hv j hj]
  by_cases e : j = o
  · subst e; rw [if_pos rfl, if_pos (by simp)]; simp
  · rw [if_neg e, if_neg (by simp; omega)]
def upd (r : Nat → Ent) (i : Nat) (e : Ent) : Nat → Ent := fun j => if j = i then e else r j
/-- The lane at block b. -/
structure Ln (w : World) (b : Nat) (s : LS) : Prop where
  blk : ∃ A, w.heap[b]? = some (.cells A 67 (0, 0)) ∧ LV A s
  map : w.ownsMap Try.prog 22 Rp s.mb s.n s.D
theorem Ln.lt {w : World} {b : Nat} {s : LS} (h : Ln w b s) : b < w.heap.size := by
  obtain ⟨A, hA, _⟩ := h.blk
  exact (Array.getElem?_eq_some_iff.1 hA).1
theorem Ln.ne {w : World} {b : Nat} {s : LS} (h : Ln w b s) : b ≠ s.mb := by
  obtain ⟨A, hA, _⟩ := h.blk
  obtain ⟨es, clock, hb, _⟩ := h.map
  intro e
  rw [e, hb] at hA
  cases hA
theorem ownsMap_of {P : Program} {k : TypeId} {H : Type} {R : Value → Option (DataW H × List MemPlace)} {m n : Nat} {D : DataW H} {w w' : World} (h : w.ownsMap P k R m n D) (e : w'.heap[m]? = w.heap[m]?) : w'.ownsMap P k R m n D := by
  obtain ⟨es, clock, hb, r⟩ := h
  exact ⟨es, clock, e.trans hb, r⟩
theorem Ln.of {w w' : World} {b : Nat} {s : LS} (h : Ln w b s) (e1 : w'.heap[b]? = w.heap[b]?) (e2 : w'.heap[s.mb]? = w.heap[s.mb]?) : Ln w' b s := by
  obtain ⟨A, hA, hv⟩ := h.blk
  exact ⟨⟨A, e1.trans hA, hv⟩, ownsMap_of h.map e2⟩
theorem Ln.below {w w' : World} {b : Nat} {s : LS} (h : Ln w b s) (k : Below w.heap.size w w') : Ln w' b s := h.of (k.block _ h.lt) (k.block _ h.map.lt)
theorem Ln.far {w w' : World} {b b' m' : Nat} {s : LS} (h : Ln w b s) (k : Far b' m' w w') (h1 : b ≠ b') (h2 : b ≠ m') (h3 : s.mb ≠ b') (h4 : s.mb ≠ m') : Ln w' b s := h.of (k.block _ h.lt h1 h2) (k.block _ h.map.lt h3 h4)
theorem Ln.cell {w : World} {b : Nat} {s : LS} (h : Ln w b s) (k : Nat) (hk : k < 330) : w.cell? ⟨b, k, none⟩ = some (lval s k) := by
  obtain ⟨A, hA, hv⟩ := h.blk
  simp only [World.cell?, hA]
  exact hv.2 k hk
theorem Ln.frozen {w : World} {b : Nat} {s : LS} (h : Ln w b s) (k : Nat) : w.frozen? ⟨b, k, none⟩ = false := by
  obtain ⟨A, hA, hv⟩ := h.blk
  simp [World.frozen?, hA]
theorem Ln.ent {w : World} {b : Nat} {s : LS} (h : Ln w b s) (i : Nat) (hi : i < 64) (j : Nat) (hj : j < 5) : w.cell? ⟨b, 4 + i * 5 + j, none⟩ = some ((s.ring i).at j) := by
  rw [h.cell _ (by omega)]
  unfold lval
  rw [if_neg (by omega), if_neg (by omega), if_neg (by omega), if_neg (by omega), if_pos (by omega), show (4 + i * 5 + j - 4) / 5 = i by omega, show (4 + i * 5 + j - 4) % 5 = j by omega]
/-- A store into the lane's block: the map is as it was. -/
theorem Ln.setAll {w : World} {b : Nat} {s s' : LS} (h : Ln w b s) (o : Nat) (vs : List Value) (ho : o + vs.length ≤ 330)
    (hv : ∀ j, j < 330 → some (lval s' j) = if o ≤ j ∧ j < o + vs.length then vs[j - o]? else some (lval s j)) (hm : s'.mb = s.mb) (hn : s'.n = s.n) (hD : s'.D = s.D) : Ln (w.setCells b o vs) b s' := by
  obtain ⟨A, hA, hL⟩ := h.blk
  refine ⟨⟨_, blk_setCells vs o A w hA, hL.setAll o vs ho hv⟩, ?_⟩
  rw [hm, hn, hD]
  exact ownsMap_of h.map (far_setCells (Ne.symm h.ne) vs o w)
theorem Ln.set {w : World} {b : Nat} {s s' : LS} (h : Ln w b s) (o : Nat) (v : Value) (ho : o < 330) (hv : ∀ j, j < 330 → lval s' j = if j = o then v else lval s j) (hm : s'.mb = s.mb) (hn : s'.n = s.n) (hD : s'.D = s.D) : Ln (w.setCell ⟨b, o, none⟩ v) b s' := by
  refine Ln.setAll h o [v] (by simp; omega) (fun j hj => ?_) hm hn hD
  rw [hv j hj]
  by_cases e : j = o
  · subst e; rw [if_pos rfl, if_pos (by simp)]; simp
  · rw [if_neg e, if_neg (by simp; omega)]
theorem Ln.map' {w w' : World} {b : Nat} {s : LS} (h : Ln w b s) {n : Nat} {D : DataW Past} (hg : w.grownBy w' (some s.mb)) (ho : w'.ownsMap Try.prog 22 Rp s.mb n D) : Ln w' b { s with n := n, D := D } := by
  obtain ⟨A, hA, hL⟩ := h.blk
  refine ⟨⟨A, (hg.block b h.lt (fun e => h.ne (by cases e; rfl))).trans hA, hL⟩, ho⟩

theorem cell_new (w : World) (C : Array Value) (t : TypeId) (k : Nat) : (w.alloc (.cells C t)).cell? ⟨w.heap.size, k, none⟩ = C[k]? := by
  have h := World.alloc_heap_new w (.cells C t)
  simp only [World.cell?, h]
  rfl
/-! ### order.Place -/
def Pw (n : Int) : Prop := n = 1 ∨ n = 2 ∨ n = 4 ∨ n = 8 ∨ n = 16 ∨ n = 32 ∨ n = 64
theorem Pw.is {n : Int} (h : Pw n) : IsPow n := by unfold Pw at h; unfold IsPow; omega
theorem Pw.bds {n : Int} (h : Pw n) : 1 ≤ n ∧ n ≤ 64 := by unfold Pw at h; omega
def U64 (x : Int) : Prop := 0 ≤ x ∧ x < 18446744073709551616
theorem place_f (x n : Int) (hx : U64 x) (hn : Pw n) : order_Place.f x n = some (x % n, 0) := by
  have hb := hn.bds
  have hr : order_ring.f n = some true := by
    unfold order_ring.f
    rw [if_pos (by omega), if_pos (by omega), (ring_bits n (by omega) (by omega)).2 hn.is]
  unfold order_Place.f
  rw [hr, Option.bind_some, if_pos rfl, place_bits x n hx.1 hx.2 hn.is]
  have h1 := Int.emod_nonneg x (show n ≠ 0 by omega)
  have h2 := Int.emod_lt_of_pos x (show 0 < n by omega)
  rw [show wrap64 (x % n) = x % n by unfold wrap64; omega]
theorem below_drawn0 {w w' : World} (h : Drawn0 w w') : Below w.heap.size w w' := by
  obtain ⟨k, rfl⟩ := h.out
  exact pw_below_drewN (Below.refl _ _) k
theorem place_calls (x n : Int) (hx : U64 x) (hn : Pw n) (w : World) : Calls Try.prog 44 #[.int .u64 x, .int .i64 n] w fun e w' => e = .returned (.tuple #[.int .i64 (x % n), .int .i64 0]) ∧ Below w.heap.size w w' :=
  (order_Place.calls x n _ _ w (place_f x n hx hn)).mono fun e w' h => ⟨h.1, below_drawn0 h.2⟩
end Go.Proofs.Ytglekbbdbnpohaa.QLn
