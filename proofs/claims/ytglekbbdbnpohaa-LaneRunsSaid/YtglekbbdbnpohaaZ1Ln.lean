/- Lane: LPow, ALn, BLn, CLn, DLn joined. -/
import Derived.Laws.Bits64
import Derived.Laws.BitsLemmas
import Derived.Laws.BitsAllLaws
import Derived.RowKit
import Derived.KernelRfl
import Derived.Test.YtglekbbdbnpohaaQLnx1
import Derived.Lib.Hide
import Derived.RangeFuncBox
import Derived.Handy
import Derived.Deep.MidRow
import Derived.RegionTactic
import Derived.Deep.RegionHeld3
import Derived.Maps.RangeWalk
import Derived.Maps.OwnSet
import Derived.Laws.ResultCell
/- Plain lemmas on powers of two and bits: used by the claims on rings and places. -/
namespace Go.Proofs.Ytglekbbdbnpohaa.LPow
open Go.RowKit

theorem and_ne (m j : Nat) (h1 : 2 ^ j < m) (h2 : m < 2 ^ (j + 1)) : m &&& (m - 1) ≠ 0 := by
  intro h
  have hp : 0 < 2 ^ j := Nat.two_pow_pos j
  have e2 : 2 ^ (j + 1) = 2 ^ j + 2 ^ j := by rw [Nat.pow_succ]; omega
  have q1 : m / 2 ^ j = 1 := Nat.div_eq_of_lt_le (by omega) (by omega)
  have q2 : (m - 1) / 2 ^ j = 1 := Nat.div_eq_of_lt_le (by omega) (by omega)
  have t1 : Nat.testBit m j = true := by rw [Nat.testBit_eq_decide_div_mod_eq, q1]; rfl
  have t2 : Nat.testBit (m - 1) j = true := by rw [Nat.testBit_eq_decide_div_mod_eq, q2]; rfl
  have := congrArg (fun x => Nat.testBit x j) h
  simp only [Nat.testBit_and, t1, t2, Nat.zero_testBit] at this
  exact absurd this (by decide)

/-- The sizes that a ring may have. -/
def IsPow (n : Int) : Prop := n = 1 ∨ n = 2 ∨ n = 4 ∨ n = 8 ∨ n = 16 ∨ n = 32 ∨ n = 64 ∨ n = 128 ∨ n = 256 ∨ n = 512 ∨ n = 1024 ∨ n = 2048 ∨ n = 4096 ∨ n = 8192 ∨ n = 16384 ∨ n = 32768 ∨ n = 65536

theorem nat_pow (m : Nat) (h1 : 1 ≤ m) (h2 : m ≤ 65536) (h : m &&& (m - 1) = 0) : IsPow (m : Int) := by
  have a0 := and_ne m 0
  have a1 := and_ne m 1
  have a2 := and_ne m 2
  have a3 := and_ne m 3
  have a4 := and_ne m 4
  have a5 := and_ne m 5
  have a6 := and_ne m 6
  have a7 := and_ne m 7
  have a8 := and_ne m 8
  have a9 := and_ne m 9
  have a10 := and_ne m 10
  have a11 := and_ne m 11
  have a12 := and_ne m 12
  have a13 := and_ne m 13
  have a14 := and_ne m 14
  have a15 := and_ne m 15
  simp only [h, ne_eq, not_true_eq_false, imp_false, Nat.not_lt] at *
  simp only [Nat.reducePow, Nat.reduceAdd] at *
  unfold IsPow
  omega

theorem wraps_i64 (n : Int) (h₀ : 0 ≤ n) (h₁ : n < 2 ^ 63) : IntKind.i64.wrap n = n := by rw [IntKind.wrap_i64]; omega

/-- 'size&(size-1)', where it lies within the bounds. -/
theorem ring_bits (n : Int) (h1 : 1 ≤ n) (h2 : n ≤ 65536) : (bits .and .i64 n (wrap64 (n - 1)) == 0) = true ↔ IsPow n := by
  obtain ⟨m, rfl⟩ := Int.eq_ofNat_of_zero_le (show 0 ≤ n by omega)
  have e : wrap64 ((m : Int) - 1) = ((m - 1 : Nat) : Int) := by unfold wrap64; omega
  rw [e, (bits_nat .i64 63 (by decide) wraps_i64 m (m - 1) (by omega) (by omega)).1, beq_iff_eq]
  constructor
  · intro h
    exact nat_pow m (by omega) (by omega) (by omega)
  · intro h
    unfold IsPow at h
    have : m = 1 ∨ m = 2 ∨ m = 4 ∨ m = 8 ∨ m = 16 ∨ m = 32 ∨ m = 64 ∨ m = 128 ∨ m = 256 ∨ m = 512 ∨ m = 1024 ∨ m = 2048 ∨ m = 4096 ∨ m = 8192 ∨ m = 16384 ∨ m = 32768 ∨ m = 65536 := by omega
    rcases this with rfl | rfl | rfl | rfl | rfl | rfl | rfl | rfl | rfl | rfl | rfl | rfl | rfl | rfl | rfl | rfl | rfl <;> decide

/-- 'x&uint64(size-1)', the size a ring's. -/
theorem place_bits (x n : Int) (h0 : 0 ≤ x) (h1 : x < 18446744073709551616) (hn : IsPow n) : bits .and .u64 x (IntKind.u64.wrap (wrap64 (n - 1))) = x % n := by
  obtain ⟨m, rfl⟩ := Int.eq_ofNat_of_zero_le h0
  have mask : ∀ j : Nat, j ≤ 16 → ((m &&& (2 ^ j - 1) : Nat) : Int) = (m : Int) % ((2 ^ j : Nat) : Int) := by
    intro j _
    rw [Nat.and_two_pow_sub_one_eq_mod]
    rfl
  have key : ∀ j : Nat, j ≤ 16 → n = ((2 ^ j : Nat) : Int) → bits .and .u64 (m : Int) (IntKind.u64.wrap (wrap64 (n - 1))) = (m : Int) % n := by
    intro j hj he
    have hp : 2 ^ j ≤ 2 ^ 16 := Nat.pow_le_pow_right (by decide) hj
    have hp0 : 0 < 2 ^ j := Nat.two_pow_pos j
    have e : IntKind.u64.wrap (wrap64 (n - 1)) = ((2 ^ j - 1 : Nat) : Int) := by rw [IntKind.wrap_u64, he]; unfold wrap64; omega
    rw [e, u64_and_nat m (2 ^ j - 1) (by omega) (by omega), mask j hj, he]
  unfold IsPow at hn
  rcases hn with h | h | h | h | h | h | h | h | h | h | h | h | h | h | h | h | h
  · exact key 0 (by decide) h
  · exact key 1 (by decide) h
  · exact key 2 (by decide) h
  · exact key 3 (by decide) h
  · exact key 4 (by decide) h
  · exact key 5 (by decide) h
  · exact key 6 (by decide) h
  · exact key 7 (by decide) h
  · exact key 8 (by decide) h
  · exact key 9 (by decide) h
  · exact key 10 (by decide) h
  · exact key 11 (by decide) h
  · exact key 12 (by decide) h
  · exact key 13 (by decide) h
  · exact key 14 (by decide) h
  · exact key 15 (by decide) h
  · exact key 16 (by decide) h

end Go.Proofs.Ytglekbbdbnpohaa.LPow
/- Lane: blocks of many cells; the lane's struct in memory. -/
namespace Go.Proofs.Ytglekbbdbnpohaa.QLn
open Go.RowKit Go.Proofs.YtglekbbdbnpohaaW.PrintWords Go.Proofs.YtglekbbdbnpohaaW.PrintLast Go.Proofs.YtglekbbdbnpohaaW.PrintMore
open Go.Proofs.Ytglekbbdbnpohaa.LPow
set_option linter.unusedVariables false
set_option linter.unusedSimpArgs false

/-! ### Blocks of many cells -/
def setAll (cur : Array Value) (o : Nat) : List Value → Array Value
  | [] => cur
  | v :: vs => setAll (cur.setIfInBounds o v) (o + 1) vs
theorem blk_setCells {g : Nat} {t : TypeId} : ∀ (vs : List Value) (o : Nat) (cur : Array Value) (w : World), w.heap[g]? = some (.cells cur t (0, 0)) → (w.setCells g o vs).heap[g]? = some (.cells (setAll cur o vs) t (0, 0))
  | [], _, _, _, h => h
  | v :: vs, o, cur, w, h => blk_setCells vs (o + 1) (cur.setIfInBounds o v) (w.setCell ⟨g, o, none⟩ v) (blk_set h o v)
theorem below_setCells {B g : Nat} {w0 : World} (hg : B ≤ g) : ∀ (vs : List Value) (o : Nat) (w : World), Below B w0 w → Below B w0 (w.setCells g o vs)
  | [], _, _, h => h
  | v :: vs, o, w, h => below_setCells hg vs (o + 1) (w.setCell ⟨g, o, none⟩ v) (h.setCell (p := ⟨g, o, none⟩) hg v)
theorem own_setCells {g base size n : Nat} {e : TypeId} {v : Value} {xs : List Value} (hne : some g ≠ v.ownBlock) : ∀ (vs : List Value) (o : Nat) (w : World), w.ownsRow base e size v n xs → (w.setCells g o vs).ownsRow base e size v n xs
  | [], _, _, h => h
  | u :: vs, o, w, h => own_setCells hne vs (o + 1) (w.setCell ⟨g, o, none⟩ u) (own_setCell h (p := ⟨g, o, none⟩) hne u)
theorem there_of_block {w : World} {b : Nat} {cs : Array Value} {t : TypeId} (h : w.heap[b]? = some (.cells cs t (0, 0))) (o n : Nat) (hn : o + n ≤ cs.size) : w.there b o n := fun j hj => by
  have hlt : o + j < cs.size := by omega
  constructor
  · simp [World.cell?, h, hlt]
  · simp [World.frozen?, h]
theorem own_ne {w : World} {base size n g : Nat} {e t : TypeId} {v : Value} {xs : List Value} {cs : Array Value} (h : w.ownsRow base e size v n xs) (hg : w.heap[g]? = some (.cells cs t (0, 0))) (hte : t ≠ e) : some g ≠ v.ownBlock := by
  intro he
  obtain ⟨cells, hc⟩ := own_typed h g he.symm
  rw [hg] at hc
  injection hc with hc
  injection hc with _ hc
  exact hte hc

theorem far_setCells {g k : Nat} (hne : k ≠ g) : ∀ (vs : List Value) (o : Nat) (w : World), (w.setCells g o vs).heap[k]? = w.heap[k]?
  | [], _, _ => rfl
  | v :: vs, o, w => (far_setCells hne vs (o + 1) (w.setCell ⟨g, o, none⟩ v)).trans (Below.heap_setCell w ⟨g, o, none⟩ v k hne)
/-! ### Stores of structs -/
section
variable {P : Program}
theorem store_blk {ops : Array Oper} {rest : List Oper} {op : Oper} {a : Act} {w : World} {Q : Exit → Act → World → Prop} (hgd : op.guard = none) (ty : TypeId) (x y : Operand) (ho : op.op = .store ty x y)
    (g o : Nat) (cells cur : Array Value) (t : TypeId) (hx : a.eval x = .pointer (some ⟨g, o, none⟩)) (hy : a.eval y = .agg cells)
    (hw : w.heap[g]? = some (.cells cur t (0, 0))) (hsz : o + cells.size ≤ cur.size) (hi : (P.info? ty).map (·.size) = some cells.size) (h1 : cells.all (·.oneCell') = true)
    (h : ∀ w', w' = w.setCells g o cells.toList → w'.heap[g]? = some (.cells (setAll cur o cells.toList) t (0, 0)) → wpList P ops Q rest (a.put op.dst undef) w') : wpList P ops Q (op :: rest) a w :=
  wpList_store_mid hgd ty x y ho g o cells hx hy (there_of_block hw o _ hsz) hi h1 (h _ rfl (blk_setCells _ _ _ _ hw))
end
section
variable {P : Program}
theorem range_blk {w : World} {g : Nat} {C : Array Value} {t : TypeId} (hw : w.heap[g]? = some (.cells C t (0, 0))) : w.rangeAt g 0 C.toList := by
  have := World.rangeAt_of_block hw 0 C.size
  simpa using this
theorem load_blk {ops : Array Oper} {rest : List Oper} {op : Oper} {a : Act} {w : World} {Q : Exit → Act → World → Prop} (hgd : op.guard = none) (ty : TypeId) (x : Operand) (ho : op.op = .load ty x)
    (g : Nat) (C : Array Value) (t : TypeId) (hx : a.eval x = .pointer (some ⟨g, 0, none⟩)) (d : TypeDesc) (hw : w.heap[g]? = some (.cells C t (0, 0)))
    (hu : P.underlying ty = some d) (hd : d.isRow = true) (hi : (P.info? ty).map (·.size) = some C.size)
    (h : wpList P ops Q rest (a.put op.dst (.agg C)) w) : wpList P ops Q (op :: rest) a w :=
  wpList_load_mid hgd ty x ho g 0 hx C.toList d (range_blk hw) hu hd (by simpa using hi) h
theorem yields_blk {ops : Array Oper} {S : World → Prop} {op : Oper} {a : Act} (hw : Region.wanted op (yielded ops a.tmps) = true) (ty : TypeId) (x : Operand) (ho : op.op = .load ty x)
    (g : Nat) (C : Array Value) (t : TypeId) (hx : a.eval x = .pointer (some ⟨g, 0, none⟩)) (d : TypeDesc) (hS : ∀ w, S w → w.heap[g]? = some (.cells C t (0, 0)))
    (hu : P.underlying ty = some d) (hd : d.isRow = true) (hi : (P.info? ty).map (·.size) = some C.size) : YieldsIf P ops S op (.agg C) a :=
  yieldsIf_load_mid hw ty x ho g 0 hx C.toList d (fun w h => range_blk (hS w h)) hu hd (by simpa using hi)
theorem take_at {ops : Array Oper} {Q : Exit → Act → World → Prop} {md : Region.Mode} {S : World → Prop} {i : Nat} {oi : Oper} {v : Value} {fuel : Nat} {listed : Array Bool} {a : Act} {w : World} (n : Nat) (hi : ops[i]? = some oi) (hd : oi.dst = some n)
    (hs : Region.noSelect ops = true) (hf : Region.free md ops listed i = true) (hr : (Region.ready md ops listed).contains i = true)
    (hQ : ∀ c a w, Q (.panic c) (a.put (some n) v) w → Q (.panic c) a w) (hy : YieldsIf P ops S oi v a) (hS : S w)
    (h : wpAnyH P md ops Q S fuel (listed.setIfInBounds i true) (a.put (some n) v) w) : wpAnyH P md ops Q S (fuel + 1) listed a w :=
  wpAnyH_take hi hs hf hr (by rw [hd]; exact hQ) hy hS (by rw [hd]; exact h)
theorem store_at {op : Oper} {a : Act} {w : World} {K : Act → World → Prop} {Q : Exit → Act → World → Prop} (hd : op.dst = none) (ty : TypeId) (x y : Operand) (ho : op.op = .store ty x y)
    (b o : Nat) (cells : Array Value) (hx : a.eval x = .pointer (some ⟨b, o, none⟩)) (hy : a.eval y = .agg cells)
    (ht : w.there b o cells.size) (hi : (P.info? ty).map (·.size) = some cells.size) (h1 : cells.all (·.oneCell') = true)
    (h : K a (w.setCells b o cells.toList)) : op.wp P a w K Q :=
  wp_store_mid ty x y ho b o cells hx hy ht hi h1 (by rw [hd]; exact h)
end
section
variable {P : Program}
theorem run_load_any (w : World) (ad : Addr) (ty : TypeId) (cs : List Value) (d : TypeDesc) (hc : ∀ j v, cs[j]? = some v → w.cell? (ad.add j) = some v)
    (hu : P.underlying ty = some d) (hd : d.isRow = true) (hi : (P.info? ty).map (·.size) = some cs.length) : (loadVar ty ad).run P w = .ok (.agg cs.toArray) w := by
  have hl : (loadCells ad cs.length).run P w = .ok cs.toArray w := run_loadCells_list (P := P) w ad cs hc
  cases hq : P.info? ty with
  | none => simp [hq] at hi
  | some i =>
    have hs : i.size = cs.length := by simpa [hq] using hi
    have hagg : (isAgg ty).run P w = .ok true w := by
      unfold isAgg
      rw [Sem.run_bind, run_underlying hu w]
      cases d <;> simp_all
    simp [loadVar, Sem.run_bind, hagg, sizeOf, typeInfo, hq, hs, hl]
theorem load_any {ops : Array Oper} {rest : List Oper} {op : Oper} {a : Act} {w : World} {Q : Exit → Act → World → Prop} (hgd : op.guard = none) (ty : TypeId) (x : Operand) (ho : op.op = .load ty x)
    (ad : Addr) (hx : a.eval x = .pointer (some ad)) (C : Array Value) (d : TypeDesc) (hc : ∀ j v, C.toList[j]? = some v → w.cell? (ad.add j) = some v)
    (hu : P.underlying ty = some d) (hd : d.isRow = true) (hi : (P.info? ty).map (·.size) = some C.size)
    (h : wpList P ops Q rest (a.put op.dst (.agg C)) w) : wpList P ops Q (op :: rest) a w :=
  wpList_plain hgd fun _ hK => by
    unfold Oper.wp execOp
    simp only [ho, hx, Instr.loadAt, Instr.sureAddr, Sem.run_bind, Sem.run_pure, Result.andThen_ok, run_load_any w ad ty C.toList d hc hu hd (by simpa using hi)]
    exact hK _ _ h
end
theorem add_add' (a : Addr) (m n : Nat) : (a.add m).add n = a.add (m + n) := by
  unfold Addr.add
  by_cases hm : m = 0
  · subst hm; simp
  · by_cases hn : n = 0
    · subst hn; simp
    · have : m + n ≠ 0 := by omega
      simp [hm, hn, this, Nat.add_assoc]
theorem obj_below {w w' : World} {g : Nat} {C : Obj} (hb : Below w.heap.size w w') (h : w.heap[g]? = some C) : w'.heap[g]? = some C := (hb.block _ (Array.getElem?_eq_some_iff.1 h).1).trans h
theorem range_below {w w' : World} {b o : Nat} {cs : List Value} (hb : Below w.heap.size w w') (h : w.rangeAt b o cs) : w'.rangeAt b o cs := fun j v hv => pw_cell_below hb (h j v hv)

/-! ### Nothing but two blocks -/
structure Far (b m : Nat) (w w' : World) : Prop where
  os : w'.os = w.os
  tape : w'.tape = w.tape
  output : w'.output = w.output
  size : w.heap.size ≤ w'.heap.size
  block : ∀ i, i < w.heap.size → i ≠ b → i ≠ m → w'.heap[i]? = w.heap[i]?
theorem Far.refl (b m : Nat) (w : World) : Far b m w w := ⟨rfl, rfl, rfl, Nat.le_refl _, fun _ _ _ _ => rfl⟩
theorem Far.trans {b m : Nat} {u v w : World} (h : Far b m u v) (k : Far b m v w) : Far b m u w :=
  ⟨k.os.trans h.os, k.tape.trans h.tape, k.output.trans h.output, Nat.le_trans h.size k.size, fun i hi h1 h2 => (k.block i (Nat.lt_of_lt_of_le hi h.size) h1 h2).trans (h.block i hi h1 h2)⟩
theorem Far.of_below {b m : Nat} {w w' : World} (h : Below w.heap.size w w') : Far b m w w' := ⟨h.os, h.tape, h.output, h.size, fun i hi _ _ => h.block i hi⟩
theorem Far.setCell {b m : Nat} {w0 w : World} (h : Far b m w0 w) (o : Nat) (v : Value) : Far b m w0 (w.setCell ⟨b, o, none⟩ v) :=
  h.trans ⟨rfl, rfl, rfl, by simp [World.setCell], fun i _ h1 _ => Below.heap_setCell _ _ _ _ h1⟩
theorem Far.setCells {b m : Nat} {w0 : World} : ∀ (vs : List Value) (o : Nat) (w : World), Far b m w0 w → Far b m w0 (w.setCells b o vs)
  | [], _, _, h => h
  | v :: vs, o, w, h => Far.setCells vs (o + 1) (w.setCell ⟨b, o, none⟩ v) (h.setCell o v)
theorem Far.grown {b m : Nat} {w0 w w' : World} (h : Far b m w0 w) (hg : w.grownBy w' (some m)) : Far b m w0 w' :=
  h.trans ⟨hg.os, hg.tape, hg.output, hg.size, fun i hi _ h2 => hg.block i hi (fun e => h2 (by cases e; rfl))⟩
theorem Far.up {b m B : Nat} {w0 w w' : World} (h : Below B w0 w) (hB : B ≤ w.heap.size) (hb : B ≤ b) (hm : B ≤ m) (k : Far b m w w') : Below B w0 w' :=
  h.trans ⟨k.os, k.tape, k.output, k.size, fun i hi => k.block i (by omega) (by omega) (by omega)⟩

/-! ### The lane's struct -/
structure Ent where
  is : Int
  n : Int
  g : Int
  tk : Int
  st : Int
def Ent.at (e : Ent) : Nat → Value
  | 0 => .int .i64 e.is
  | 1 => .int .i64 e.n
  | 2 => .int .u64 e.g
  | 3 => .int .i64 e.tk
  | _ => .int .i64 e.st
structure Past where
  n : Int
  g : Int
  held : Bool
  deriving DecidableEq
def Past.v (p : Past) : Value := .agg #[.int .i64 p.n, .int .u64 p.g, .bool p.held]
def Rp : Value → Option (DataW Past × List MemPlace)
  | .agg ⟨[.int .i64 n, .int .u64 g, .bool h]⟩ => some (.held ⟨n, g, h⟩, [])
  | _ => none
theorem Rp_v (p : Past) : Rp p.v = some (.held p, []) := rfl
theorem Rp_inv {v : Value} {y : DataW Past × List MemPlace} (h : Rp v = some y) : ∃ p : Past, v = p.v ∧ y = (.held p, []) := by
  unfold Rp at h
  split at h
  · rename_i n g hh
    cases h
    exact ⟨⟨n, g, hh⟩, rfl, rfl⟩
  · cases h
structure LS where
  credit : Int
  two : Bool
  left : Int
  size : Int
  ring : Nat → Ent
  base : Int
  head : Int
  ready : Int
  tail : Int
  epoch : Int
  mb : Nat
  n : Nat
  D : DataW Past
def lval (s : LS) (k : Nat) : Value :=
  if k = 0 then .int .i64 s.credit else if k = 1 then .bool s.two else if k = 2 then .int .i64 s.left else if k = 3 then .int .i64 s.size
  else if k < 324 then (s.ring ((k - 4) / 5)).at ((k - 4) % 5)
  else if k = 324 then .int .u64 s.base else if k = 325 then .int .u64 s.head else if k = 326 then .int .u64 s.ready else if k = 327 then .int .u64 s.tail
  else if k = 328 then .int .u64 s.epoch else .map (some s.mb)
def LV (A : Array Value) (s : LS) : Prop := A.size = 330 ∧ ∀ k, k < 330 → A[k]? = some (lval s k)
theorem get_setAll : ∀ (vs : List Value) (A : Array Value) (o j : Nat), o + vs.length ≤ A.size → (setAll A o vs)[j]? = if o ≤ j ∧ j < o + vs.length then vs[j - o]? else A[j]?
  | [], A, o, j, h => by
    rw [if_neg (by simp <;> omega), QLn.setAll]
  | v :: vs, A, o, j, h => by
    simp only [List.length_cons] at h ⊢
    show (setAll (A.setIfInBounds o v) (o + 1) vs)[j]? = _
    rw [get_setAll vs (A.setIfInBounds o v) (o + 1) j (by rw [Array.size_setIfInBounds]; omega)]
    by_cases h1 : o + 1 ≤ j ∧ j < o + 1 + vs.length
    · rw [if_pos h1, if_pos (by omega), show j - o = (j - (o + 1)) + 1 by omega, List.getElem?_cons_succ]
    · rw [if_neg h1, Array.getElem?_setIfInBounds]
      by_cases h2 : o = j
      · subst h2
        rw [if_pos rfl, if_pos (by omega), if_pos (by omega), Nat.sub_self]; rfl
      · rw [if_neg h2, if_neg (by omega)]
theorem size_setAll : ∀ (vs : List Value) (A : Array Value) (o : Nat), (setAll A o vs).size = A.size
  | [], _, _ => rfl
  | v :: vs, A, o => (size_setAll vs _ _).trans (Array.size_setIfInBounds ..)
theorem LV.setAll {A : Array Value} {s s' : LS} (h : LV A s) (o : Nat) (vs : List Value) (ho : o + vs.length ≤ 330)
    (hv : ∀ j, j < 330 → some (lval s' j) = if o ≤ j ∧ j < o + vs.length then vs[j - o]? else some (lval s j)) : LV (QLn.setAll A o vs) s' := by
  refine ⟨(size_setAll _ _ _).trans h.1, fun k hk => ?_⟩
  rw [get_setAll vs A o k (by rw [h.1]; exact ho), hv k hk]
  split
  · rfl
  · exact h.2 k hk
theorem LV.set {A : Array Value} {s s' : LS} (h : LV A s) (o : Nat) (v : Value) (ho : o < 330) (hv : ∀ j, j < 330 → lval s' j = if j = o then v else lval s j) : LV (A.setIfInBounds o v) s' := by
  refine LV.setAll h o [v] (by simp; omega) (fun j hj => ?_)
  rw [hv j hj]
  by_cases e : j = o
  · subst e; rw [if_pos rfl, if_pos (by simp)]; simp
  · rw [if_neg e, if_neg (by simp; omega)]
def upd (r : Nat → Ent) (i : Nat) (e : Ent) : Nat → Ent := fun j => if j = i then e else r j
/-- The lane at block b. -/
structure Ln (w : World) (b : Nat) (s : LS) : Prop where
  blk : ∃ A, w.heap[b]? = some (.cells A 67 (0, 0)) ∧ LV A s
  map : w.ownsMap Try.prog 22 Rp s.mb s.n s.D
theorem Ln.lt {w : World} {b : Nat} {s : LS} (h : Ln w b s) : b < w.heap.size := by
  obtain ⟨A, hA, _⟩ := h.blk
  exact (Array.getElem?_eq_some_iff.1 hA).1
theorem Ln.ne {w : World} {b : Nat} {s : LS} (h : Ln w b s) : b ≠ s.mb := by
  obtain ⟨A, hA, _⟩ := h.blk
  obtain ⟨es, clock, hb, _⟩ := h.map
  intro e
  rw [e, hb] at hA
  cases hA
theorem ownsMap_of {P : Program} {k : TypeId} {H : Type} {R : Value → Option (DataW H × List MemPlace)} {m n : Nat} {D : DataW H} {w w' : World} (h : w.ownsMap P k R m n D) (e : w'.heap[m]? = w.heap[m]?) : w'.ownsMap P k R m n D := by
  obtain ⟨es, clock, hb, r⟩ := h
  exact ⟨es, clock, e.trans hb, r⟩
theorem Ln.of {w w' : World} {b : Nat} {s : LS} (h : Ln w b s) (e1 : w'.heap[b]? = w.heap[b]?) (e2 : w'.heap[s.mb]? = w.heap[s.mb]?) : Ln w' b s := by
  obtain ⟨A, hA, hv⟩ := h.blk
  exact ⟨⟨A, e1.trans hA, hv⟩, ownsMap_of h.map e2⟩
theorem Ln.below {w w' : World} {b : Nat} {s : LS} (h : Ln w b s) (k : Below w.heap.size w w') : Ln w' b s := h.of (k.block _ h.lt) (k.block _ h.map.lt)
theorem Ln.far {w w' : World} {b b' m' : Nat} {s : LS} (h : Ln w b s) (k : Far b' m' w w') (h1 : b ≠ b') (h2 : b ≠ m') (h3 : s.mb ≠ b') (h4 : s.mb ≠ m') : Ln w' b s := h.of (k.block _ h.lt h1 h2) (k.block _ h.map.lt h3 h4)
theorem Ln.cell {w : World} {b : Nat} {s : LS} (h : Ln w b s) (k : Nat) (hk : k < 330) : w.cell? ⟨b, k, none⟩ = some (lval s k) := by
  obtain ⟨A, hA, hv⟩ := h.blk
  simp only [World.cell?, hA]
  exact hv.2 k hk
theorem Ln.frozen {w : World} {b : Nat} {s : LS} (h : Ln w b s) (k : Nat) : w.frozen? ⟨b, k, none⟩ = false := by
  obtain ⟨A, hA, hv⟩ := h.blk
  simp [World.frozen?, hA]
theorem Ln.ent {w : World} {b : Nat} {s : LS} (h : Ln w b s) (i : Nat) (hi : i < 64) (j : Nat) (hj : j < 5) : w.cell? ⟨b, 4 + i * 5 + j, none⟩ = some ((s.ring i).at j) := by
  rw [h.cell _ (by omega)]
  unfold lval
  rw [if_neg (by omega), if_neg (by omega), if_neg (by omega), if_neg (by omega), if_pos (by omega), show (4 + i * 5 + j - 4) / 5 = i by omega, show (4 + i * 5 + j - 4) % 5 = j by omega]
/-- A store into the lane's block: the map is as it was. -/
theorem Ln.setAll {w : World} {b : Nat} {s s' : LS} (h : Ln w b s) (o : Nat) (vs : List Value) (ho : o + vs.length ≤ 330)
    (hv : ∀ j, j < 330 → some (lval s' j) = if o ≤ j ∧ j < o + vs.length then vs[j - o]? else some (lval s j)) (hm : s'.mb = s.mb) (hn : s'.n = s.n) (hD : s'.D = s.D) : Ln (w.setCells b o vs) b s' := by
  obtain ⟨A, hA, hL⟩ := h.blk
  refine ⟨⟨_, blk_setCells vs o A w hA, hL.setAll o vs ho hv⟩, ?_⟩
  rw [hm, hn, hD]
  exact ownsMap_of h.map (far_setCells (Ne.symm h.ne) vs o w)
theorem Ln.set {w : World} {b : Nat} {s s' : LS} (h : Ln w b s) (o : Nat) (v : Value) (ho : o < 330) (hv : ∀ j, j < 330 → lval s' j = if j = o then v else lval s j) (hm : s'.mb = s.mb) (hn : s'.n = s.n) (hD : s'.D = s.D) : Ln (w.setCell ⟨b, o, none⟩ v) b s' := by
  refine Ln.setAll h o [v] (by simp; omega) (fun j hj => ?_) hm hn hD
  rw [hv j hj]
  by_cases e : j = o
  · subst e; rw [if_pos rfl, if_pos (by simp)]; simp
  · rw [if_neg e, if_neg (by simp; omega)]
theorem Ln.map' {w w' : World} {b : Nat} {s : LS} (h : Ln w b s) {n : Nat} {D : DataW Past} (hg : w.grownBy w' (some s.mb)) (ho : w'.ownsMap Try.prog 22 Rp s.mb n D) : Ln w' b { s with n := n, D := D } := by
  obtain ⟨A, hA, hL⟩ := h.blk
  refine ⟨⟨A, (hg.block b h.lt (fun e => h.ne (by cases e; rfl))).trans hA, hL⟩, ho⟩

theorem cell_new (w : World) (C : Array Value) (t : TypeId) (k : Nat) : (w.alloc (.cells C t)).cell? ⟨w.heap.size, k, none⟩ = C[k]? := by
  have h := World.alloc_heap_new w (.cells C t)
  simp only [World.cell?, h]
  rfl
/-! ### order.Place -/
def Pw (n : Int) : Prop := n = 1 ∨ n = 2 ∨ n = 4 ∨ n = 8 ∨ n = 16 ∨ n = 32 ∨ n = 64
theorem Pw.is {n : Int} (h : Pw n) : IsPow n := by unfold Pw at h; unfold IsPow; omega
theorem Pw.bds {n : Int} (h : Pw n) : 1 ≤ n ∧ n ≤ 64 := by unfold Pw at h; omega
def U64 (x : Int) : Prop := 0 ≤ x ∧ x < 18446744073709551616
theorem place_f (x n : Int) (hx : U64 x) (hn : Pw n) : order_Place.f x n = some (x % n, 0) := by
  have hb := hn.bds
  have hr : order_ring.f n = some true := by
    unfold order_ring.f
    rw [if_pos (by omega), if_pos (by omega), (ring_bits n (by omega) (by omega)).2 hn.is]
  unfold order_Place.f
  rw [hr, Option.bind_some, if_pos rfl, place_bits x n hx.1 hx.2 hn.is]
  have h1 := Int.emod_nonneg x (show n ≠ 0 by omega)
  have h2 := Int.emod_lt_of_pos x (show 0 < n by omega)
  rw [show wrap64 (x % n) = x % n by unfold wrap64; omega]
theorem below_drawn0 {w w' : World} (h : Drawn0 w w') : Below w.heap.size w w' := by
  obtain ⟨k, rfl⟩ := h.out
  exact pw_below_drewN (Below.refl _ _) k
theorem place_calls (x n : Int) (hx : U64 x) (hn : Pw n) (w : World) : Calls Try.prog 44 #[.int .u64 x, .int .i64 n] w fun e w' => e = .returned (.tuple #[.int .i64 (x % n), .int .i64 0]) ∧ Below w.heap.size w w' :=
  (order_Place.calls x n _ _ w (place_f x n hx hn)).mono fun e w' h => ⟨h.1, below_drawn0 h.2⟩
end Go.Proofs.Ytglekbbdbnpohaa.QLn
/- Lane: is, at, claim. -/
namespace Go.Proofs.Ytglekbbdbnpohaa.QLn
open Go.RowKit Go.Proofs.YtglekbbdbnpohaaW.PrintWords Go.Proofs.YtglekbbdbnpohaaW.PrintLast Go.Proofs.YtglekbbdbnpohaaW.PrintMore
set_option linter.unusedVariables false
set_option linter.unusedSimpArgs false
theorem is_none (w : World) : Calls Try.prog 34 #[.pointer none] w fun e w' => e = .returned (.bool false) ∧ Below w.heap.size w w' := by
  go_enter Try.func34, Try.ntmps34
  go_wp2
  go_ret
  exact ⟨rfl, Below.refl _ _⟩
theorem is_calls (b : Nat) (s : LS) (w : World) (h : Ln w b s) : Calls Try.prog 34 #[.pointer (some ⟨b, 0, none⟩)] w fun e w' => e = .returned (.bool (decide (s.credit > 0))) ∧ Below w.heap.size w w' := by
  have c0 : w.cell? ⟨b, 0, none⟩ = some (.int .i64 s.credit) := h.cell 0 (by omega)
  clear h
  go_enter Try.func34, Try.ntmps34
  go_wp2
  go_ret
  exact ⟨rfl, Below.refl _ _⟩
set_option maxHeartbeats 1000000 in
theorem at_calls (b : Nat) (s : LS) (x : Int) (hx : U64 x) (hp : Pw s.size) (w : World) (h : Ln w b s) : Calls Try.prog 35 #[.pointer (some ⟨b, 0, none⟩), .int .u64 x] w fun e w' =>
    e = .returned (.pointer (some ⟨b, 4 + (x % s.size).toNat * 5, none⟩)) ∧ Below w.heap.size w w' := by
  have c3 : w.cell? ⟨b, 3, none⟩ = some (.int .i64 s.size) := h.cell 3 (by omega)
  have HL := Aside0.mk h
  have HX := Aside0.mk hx
  have HP := Aside0.mk hp
  have hb := hp.bds
  have i0 := Int.emod_nonneg x (show s.size ≠ 0 by omega)
  have i1 : x % s.size < 64 := by have := Int.emod_lt_of_pos x (show 0 < s.size by omega); omega
  clear h hx hp hb
  go_enter Try.func35, Try.ntmps35
  go_upto_region 2 with (go_at_call 44; refine (place_calls x s.size HX.out HP.out _).mono ?_; rintro e1 w1 ⟨rfl, hw1⟩)
  have HB := Aside0.mk hw1
  clear hw1 c3
  go_wp2
  go_ret
  exact ⟨rfl, HB.out⟩
theorem is_callsD (b : Nat) (s : LS) (w : World) (h : Ln w b s) : Calls Try.prog 34 #[.pointer (some ⟨b, 0, none⟩)] w fun e w' => e = .returned (.bool (decide (s.credit > 0))) ∧ ∃ nd, w' = w.drewN nd := by
  have c0 : w.cell? ⟨b, 0, none⟩ = some (.int .i64 s.credit) := h.cell 0 (by omega)
  clear h
  go_enter Try.func34, Try.ntmps34
  go_wp2
  go_ret
  exact ⟨rfl, 0, rfl⟩
set_option maxHeartbeats 1000000 in
theorem at_callsD (b : Nat) (s : LS) (x : Int) (hx : U64 x) (hp : Pw s.size) (w : World) (h : Ln w b s) : Calls Try.prog 35 #[.pointer (some ⟨b, 0, none⟩), .int .u64 x] w fun e w' =>
    e = .returned (.pointer (some ⟨b, 4 + (x % s.size).toNat * 5, none⟩)) ∧ ∃ nd, w' = w.drewN nd := by
  have c3 : w.cell? ⟨b, 3, none⟩ = some (.int .i64 s.size) := h.cell 3 (by omega)
  have HX := Aside0.mk hx
  have HP := Aside0.mk hp
  have hb := hp.bds
  have i0 := Int.emod_nonneg x (show s.size ≠ 0 by omega)
  have i1 : x % s.size < 64 := by have := Int.emod_lt_of_pos x (show 0 < s.size by omega); omega
  clear h hx hp hb
  go_enter Try.func35, Try.ntmps35
  go_upto_region 2 with (go_at_call 44; refine (order_Place.calls x s.size _ _ _ (place_f x s.size HX.out HP.out)).mono ?_; rintro e1 w1 ⟨rfl, ⟨nd, rfl⟩⟩)
  go_wp2
  go_ret
  exact ⟨rfl, nd, rfl⟩
end Go.Proofs.Ytglekbbdbnpohaa.QLn
/- Lane: claim. -/
namespace Go.Proofs.Ytglekbbdbnpohaa.QLn
open Go.RowKit Go.Proofs.YtglekbbdbnpohaaW.PrintWords Go.Proofs.YtglekbbdbnpohaaW.PrintLast Go.Proofs.YtglekbbdbnpohaaW.PrintMore
set_option linter.unusedVariables false
set_option linter.unusedSimpArgs false
def pl (s : LS) (x : Int) : Nat := (x % s.size).toNat
def within (s : LS) (q : Int) : Bool := decide ((IntKind.u64.wrap (q - s.ready)) < (IntKind.u64.wrap (s.tail - s.ready)))
def claimF (s : LS) (q ep : Int) : Option Nat :=
  if ep = s.epoch ∧ within s q = true ∧ ((s.ring (pl s q)).is = 1 ∨ (s.ring (pl s q)).is = 2) then some (pl s q) else none
theorem within_calls (s : LS) (q : Int) (w : World) : Calls Try.prog 45 #[.int .u64 s.ready, .int .u64 q, .int .u64 s.tail] w fun e w' => e = .returned (.bool (within s q)) ∧ ∃ nd, w' = w.drewN nd :=
  (order_Within.calls s.ready q s.tail _ w rfl).mono fun e w' h => ⟨h.1, h.2.out⟩
set_option maxHeartbeats 2000000 in
theorem claim_calls (b : Nat) (s : LS) (q ep : Int) (hq : U64 q) (hp : Pw s.size) (w : World) (h : Ln w b s) : Calls Try.prog 36 #[.pointer (some ⟨b, 0, none⟩), .agg #[.int .u64 q, .int .u64 ep]] w fun e w' =>
    e = .returned (.pointer ((claimF s q ep).map (fun i => ⟨b, 4 + i * 5, none⟩))) ∧ Below w.heap.size w w' := by
  have HL : Aside0 (Ln (w.alloc (.cells #[.int .u64 q, .int .u64 ep] 34)) b s) := ⟨h.below ((Below.refl _ _).alloc (Nat.le_refl _) _)⟩
  have HB0 : Aside0 (Below w.heap.size w (w.alloc (.cells #[.int .u64 q, .int .u64 ep] 34))) := ⟨(Below.refl _ _).alloc (Nat.le_refl _) _⟩
  have t0 : (w.alloc (.cells #[.int .u64 q, .int .u64 ep] 34)).cell? ⟨w.heap.size, 0, none⟩ = some (.int .u64 q) := cell_new _ _ _ _
  have t1 : (w.alloc (.cells #[.int .u64 q, .int .u64 ep] 34)).cell? ⟨w.heap.size, 1, none⟩ = some (.int .u64 ep) := cell_new _ _ _ _
  have HX := Aside0.mk hq
  have HP := Aside0.mk hp
  have c9 : (w.alloc (.cells #[.int .u64 q, .int .u64 ep] 34)).cell? ⟨b, 328, none⟩ = some (.int .u64 s.epoch) := HL.out.cell 328 (by omega)
  have c7 : (w.alloc (.cells #[.int .u64 q, .int .u64 ep] 34)).cell? ⟨b, 326, none⟩ = some (.int .u64 s.ready) := HL.out.cell 326 (by omega)
  have c8 : (w.alloc (.cells #[.int .u64 q, .int .u64 ep] 34)).cell? ⟨b, 327, none⟩ = some (.int .u64 s.tail) := HL.out.cell 327 (by omega)
  clear h hq hp
  go_enter Try.func36, Try.ntmps36
  go_upto_region 1 with fail
  generalize w.alloc (.cells #[.int .u64 q, .int .u64 ep] 34) = w1 at HL HB0 t0 t1 c9 c7 c8 ⊢
  by_cases h1 : ep = s.epoch
  · have d1 : (ep != s.epoch) = false := by simp [h1]
    have H1 := Aside0.mk h1
    clear h1
    obtain ⟨x, hx⟩ : ∃ x, within s q = x := ⟨_, rfl⟩
    have HQ := Aside0.mk hx
    have HC : Aside0 (∀ w, Calls Try.prog 45 #[.int .u64 s.ready, .int .u64 q, .int .u64 s.tail] w fun e w' => e = .returned (.bool x) ∧ ∃ nd, w' = w.drewN nd) := ⟨fun w => by rw [← hx]; exact within_calls s q w⟩
    clear hx
    cases x with
    | false =>
      have HR : Aside0 (claimF s q ep = none) := ⟨by unfold claimF; rw [if_neg (by intro h; rw [HQ.out] at h; exact absurd h.2.1 (by decide))]⟩
      go_quiet (first | (go_at_call 45; refine (HC.out _).mono ?_; rintro e w' ⟨rfl, ⟨nd, rfl⟩⟩; (try first | exact ⟨rfl, _, World.drewN_drewN _ _ _⟩ | exact ⟨rfl, _, Eq.trans (World.drewN_drewN _ _ _) (congrArg (World.drewN _) (Nat.add_assoc _ _ _))⟩)))
      have HB1 : Aside0 (Below w.heap.size w (w1.drewN nq)) := ⟨pw_below_drewN HB0.out nq⟩
      go_wp2
      go_ret
      exact ⟨by rw [HR.out]; rfl, HB1.out⟩
    | true =>
      obtain ⟨i, hi⟩ : ∃ i, (s.ring (pl s q)).is = i := ⟨_, rfl⟩
      have HI := Aside0.mk hi
      have HF : Aside0 (claimF s q ep = if i = 1 ∨ i = 2 then some (pl s q) else none) := ⟨by
        unfold claimF
        rw [← hi]
        by_cases h2 : (s.ring (pl s q)).is = 1 ∨ (s.ring (pl s q)).is = 2
        · rw [if_pos ⟨H1.out, HQ.out, h2⟩, if_pos h2]
        · rw [if_neg (fun h => h2 h.2.2), if_neg h2]⟩
      clear hi
      go_quiet (first | (go_at_call 45; refine (HC.out _).mono ?_; rintro e w' ⟨rfl, ⟨nd, rfl⟩⟩; (try first | exact ⟨rfl, _, World.drewN_drewN _ _ _⟩ | exact ⟨rfl, _, Eq.trans (World.drewN_drewN _ _ _) (congrArg (World.drewN _) (Nat.add_assoc _ _ _))⟩)))
      have HB1 : Aside0 (Below w.heap.size w (w1.drewN nq)) := ⟨pw_below_drewN HB0.out nq⟩
      have HL1 : Aside0 (Ln (w1.drewN nq) b s) := ⟨HL.out.below (pw_below_drewN (Below.refl _ _) nq)⟩
      have t2 : (w1.drewN nq).cell? ⟨w.heap.size, 0, none⟩ = some (.int .u64 q) := t0
      clear t0 t1 c9 c7 c8 HL HB0
      generalize w1.drewN nq = w2 at HB1 HL1 t2 ⊢
      go_upto_region 4 with (go_at_call 35; refine (at_calls b s q HX.out HP.out _ HL1.out).mono ?_; rintro e1 w3 ⟨rfl, hw3⟩)
      have HB2 : Aside0 (Below w.heap.size w w3) := ⟨HB1.out.trans (hw3.mono HB1.out.size)⟩
      have HL2 : Aside0 (Ln w3 b s) := ⟨HL1.out.below hw3⟩
      have hz : pl s q < 64 := by
        have hb := HP.out.bds
        have i0 := Int.emod_nonneg q (show s.size ≠ 0 by omega)
        have i1 := Int.emod_lt_of_pos q (show 0 < s.size by omega)
        unfold pl; omega
      have e0 : w3.cell? ⟨b, 4 + (q % s.size).toNat * 5, none⟩ = some (.int .i64 i) := by
        have := HL2.out.ent (pl s q) hz 0 (by omega)
        rw [show (s.ring (pl s q)).at 0 = .int .i64 (s.ring (pl s q)).is from rfl, HI.out] at this
        exact this
      clear hw3 t2 hz
      by_cases h1 : i = 1
      · have HR : Aside0 (claimF s q ep = some (pl s q)) := ⟨by rw [HF.out, if_pos (Or.inl h1)]⟩
        subst h1
        go_wp2
        go_ret
        exact ⟨by rw [HR.out]; rfl, HB2.out⟩
      · by_cases h2 : i = 2
        · have HR : Aside0 (claimF s q ep = some (pl s q)) := ⟨by rw [HF.out, if_pos (Or.inr h2)]⟩
          subst h2
          clear h1
          go_wp2
          go_ret
          exact ⟨by rw [HR.out]; rfl, HB2.out⟩
        · have HR : Aside0 (claimF s q ep = none) := ⟨by rw [HF.out, if_neg (by omega)]⟩
          have d2 : (i == 1) = false := by simp [h1]
          have d3 : (i == 2) = false := by simp [h2]
          clear h1 h2
          go_wp2
          go_ret
          exact ⟨by rw [HR.out]; rfl, HB2.out⟩
  · have d1 : (ep != s.epoch) = true := by simp [h1]
    have HR : Aside0 (claimF s q ep = none) := ⟨by unfold claimF; rw [if_neg (fun h => h1 h.1)]⟩
    clear h1
    go_quiet (fail)
    have HB1 : Aside0 (Below w.heap.size w (w1.drewN nq)) := ⟨pw_below_drewN HB0.out nq⟩
    go_wp2
    go_ret
    exact ⟨by rw [HR.out]; rfl, HB1.out⟩
end Go.Proofs.Ytglekbbdbnpohaa.QLn
/- Lane: New. -/
namespace Go.Proofs.Ytglekbbdbnpohaa.QLn
open Go.RowKit Go.Proofs.YtglekbbdbnpohaaW.PrintWords Go.Proofs.YtglekbbdbnpohaaW.PrintLast Go.Proofs.YtglekbbdbnpohaaW.PrintMore
set_option linter.unusedVariables false
set_option linter.unusedSimpArgs false
/-! ### Results in cells -/
section
variable {P : Program} {fn : Func} {p q u v : Nat} {t t2 : TypeId} {tmps : Array Value} {w : World} {g g2 : Nat} {C C2 : Array Value} {x y : Value} {d d2 : TypeDesc}
theorem res_ct (h : fn.results = #[.cell p t, .tmp u]) (hp : tmps.getD p undef = .pointer (some ⟨g, 0, none⟩)) (hx : tmps.getD u undef = x) (hg : w.heap[g]? = some (.cells C t (0, 0)))
    (hu : P.underlying t = some d) (hd : (match d with | .struct _ | .array _ _ => true | _ => false) = true) (hi : (P.info? t).map (·.size) = some C.size) :
    (results fn tmps).run P w = .ok (.tuple #[.agg C, x]) w := by
  have hp' : tmps[p]?.getD undef = .pointer (some ⟨g, 0, none⟩) := by simpa using hp
  have hx' : tmps[u]?.getD undef = x := by simpa using hx
  simp [results, h, hp', hx', asAddr, run_loadVar_row w g t t C (0, 0) d hg hu hd hi]
theorem res_ctt (h : fn.results = #[.cell p t, .tmp u, .tmp v]) (hp : tmps.getD p undef = .pointer (some ⟨g, 0, none⟩)) (hx : tmps.getD u undef = x) (hy : tmps.getD v undef = y) (hg : w.heap[g]? = some (.cells C t (0, 0)))
    (hu : P.underlying t = some d) (hd : (match d with | .struct _ | .array _ _ => true | _ => false) = true) (hi : (P.info? t).map (·.size) = some C.size) :
    (results fn tmps).run P w = .ok (.tuple #[.agg C, x, y]) w := by
  have hp' : tmps[p]?.getD undef = .pointer (some ⟨g, 0, none⟩) := by simpa using hp
  have hx' : tmps[u]?.getD undef = x := by simpa using hx
  have hy' : tmps[v]?.getD undef = y := by simpa using hy
  simp [results, h, hp', hx', hy', asAddr, run_loadVar_row w g t t C (0, 0) d hg hu hd hi]
theorem res_cct (h : fn.results = #[.cell p t, .cell q t2, .tmp u]) (hp : tmps.getD p undef = .pointer (some ⟨g, 0, none⟩)) (hq : tmps.getD q undef = .pointer (some ⟨g2, 0, none⟩)) (hx : tmps.getD u undef = x)
    (hg : w.heap[g]? = some (.cells C t (0, 0))) (hg2 : w.heap[g2]? = some (.cells C2 t2 (0, 0)))
    (hu : P.underlying t = some d) (hd : (match d with | .struct _ | .array _ _ => true | _ => false) = true) (hi : (P.info? t).map (·.size) = some C.size)
    (hu2 : P.underlying t2 = some d2) (hd2 : (match d2 with | .struct _ | .array _ _ => true | _ => false) = true) (hi2 : (P.info? t2).map (·.size) = some C2.size) :
    (results fn tmps).run P w = .ok (.tuple #[.agg C, .agg C2, x]) w := by
  have hp' : tmps[p]?.getD undef = .pointer (some ⟨g, 0, none⟩) := by simpa using hp
  have hq' : tmps[q]?.getD undef = .pointer (some ⟨g2, 0, none⟩) := by simpa using hq
  have hx' : tmps[u]?.getD undef = x := by simpa using hx
  simp [results, h, hp', hq', hx', asAddr, run_loadVar_row w g t t C (0, 0) d hg hu hd hi, run_loadVar_row w g2 t2 t2 C2 (0, 0) d2 hg2 hu2 hd2 hi2]
end
def szOk (c : Nat) : Bool := match order_Size.f 20 ((c : Int) + 1) with
  | some (r, e) => (r == 1 || r == 2 || r == 4 || r == 8 || r == 16 || r == 32 || r == 64) && e == 0 && decide ((c : Int) + 1 ≤ r)
  | none => false
theorem sz_all : (List.range 64).all szOk = true := by kernel_rfl
theorem size_f (c : Int) (h1 : 1 ≤ c) (h2 : c ≤ 64) : ∃ r, order_Size.f 20 c = some (r, 0) ∧ Pw r ∧ c ≤ r := by
  obtain ⟨m, rfl⟩ : ∃ m : Nat, c = (m : Int) + 1 := ⟨(c - 1).toNat, by omega⟩
  have h := List.all_eq_true.1 sz_all m (List.mem_range.2 (by omega))
  unfold szOk at h
  split at h
  · rename_i r e he
    simp only [Bool.and_eq_true, Bool.or_eq_true, beq_iff_eq, decide_eq_true_eq] at h
    obtain ⟨⟨h3, h4⟩, h5⟩ := h
    subst h4
    exact ⟨r, he, by unfold Pw; omega, h5⟩
  · exact absurd h (by decide)
def zs : LS := ⟨0, false, 0, 0, fun _ => ⟨0, 0, 0, 0, 0⟩, 0, 0, 0, 0, 0, 0, 0, .map []⟩
def zval (k : Nat) : Value := if k = 329 then .map none else lval zs k
theorem zero_list : Try.zeroCells67.toList = (List.range 330).map zval := by kernel_rfl
theorem zero_size : Try.zeroCells67.size = 330 := by rw [← Array.length_toList, zero_list, List.length_map, List.length_range]
theorem zero_at (k : Nat) (hk : k < 330) : Try.zeroCells67[k]? = some (zval k) := by
  rw [← Array.getElem?_toList, zero_list, List.getElem?_map, List.getElem?_range hk]; rfl
def newS (c : Int) (two : Bool) (sz st : Int) (mb : Nat) : LS := ⟨c, two, c, sz, fun _ => ⟨0, 0, 0, 0, 0⟩, st, st, st, st, 0, mb, 0, .map []⟩
theorem new_lv (c : Int) (two : Bool) (sz st : Int) (mb : Nat) : LV (((((((((Try.zeroCells67.setIfInBounds 0 (Value.int IntKind.i64 c)).setIfInBounds 1 (Value.bool two)).setIfInBounds 2 (Value.int IntKind.i64 c)).setIfInBounds 3 (Value.int IntKind.i64 sz)).setIfInBounds
    324 (Value.int IntKind.u64 st)).setIfInBounds 325 (Value.int IntKind.u64 st)).setIfInBounds 326 (Value.int IntKind.u64 st)).setIfInBounds 327 (Value.int IntKind.u64 st)).setIfInBounds 329 (Value.map (some mb))) (newS c two sz st mb) := by
  refine ⟨by simp only [Array.size_setIfInBounds, zero_size], fun k hk => ?_⟩
  simp only [Array.getElem?_setIfInBounds, Array.size_setIfInBounds, zero_size]
  by_cases e0 : k = 0
  · subst e0; rfl
  by_cases e1 : k = 1
  · subst e1; rfl
  by_cases e2 : k = 2
  · subst e2; rfl
  by_cases e3 : k = 3
  · subst e3; rfl
  by_cases e4 : k = 324
  · subst e4; rfl
  by_cases e5 : k = 325
  · subst e5; rfl
  by_cases e6 : k = 326
  · subst e6; rfl
  by_cases e7 : k = 327
  · subst e7; rfl
  by_cases e8 : k = 329
  · subst e8; rfl
  rw [if_neg (Ne.symm e8), if_neg (Ne.symm e7), if_neg (Ne.symm e6), if_neg (Ne.symm e5), if_neg (Ne.symm e4), if_neg (Ne.symm e3), if_neg (Ne.symm e2), if_neg (Ne.symm e1), if_neg (Ne.symm e0), zero_at k hk]
  unfold zval lval
  rw [if_neg e8, if_neg e0, if_neg e1, if_neg e2, if_neg e3, if_neg e0, if_neg e1, if_neg e2, if_neg e3]
  by_cases h : k < 324
  · rw [if_pos h, if_pos h]; rfl
  · rw [if_neg h, if_neg h, if_neg e4, if_neg e5, if_neg e6, if_neg e7, if_neg e4, if_neg e5, if_neg e6, if_neg e7, if_pos (by omega), if_pos (by omega)]; rfl
theorem keyed : Go.Maps.Keyed Try.prog 22 := Go.Maps.int_keyed Try.underlying22
set_option maxHeartbeats 1000000 in
theorem New_calls (c : Int) (two : Bool) (st : Int) (h1 : 1 ≤ c) (h2 : c ≤ 64) (hst : U64 st) (w : World) : Calls Try.prog 10 #[.int .i64 c, .bool two, .int .u64 st] w fun e w' =>
    ∃ sz, Pw sz ∧ c ≤ sz ∧ e = .returned (.tuple #[.pointer (some ⟨w.heap.size + 1, 0, none⟩), .int .i64 0]) ∧ Below w.heap.size w w' ∧
      Ln w' (w.heap.size + 1) (newS c two sz st w.heap.size) := by
  obtain ⟨sz, hs, hp, hc⟩ := size_f c h1 h2
  have HS := Aside0.mk hs
  have HP := Aside0.mk hp
  have HC := Aside0.mk hc
  have d1 : decide (c < 1) = false := decide_eq_false (by omega)
  have d2 : decide (c > 64) = false := decide_eq_false (by omega)
  have d2' : decide (64 < c) = false := decide_eq_false (by omega)
  clear h1 h2 hs hp hc
  have hmm := @run_makeMap Try.prog
  go_enter Try.func10, Try.ntmps10
  go_upto_region 6 with (go_at_call 24; refine (order_Size.calls 20 c sz 0 _ HS.out).mono ?_; rintro e1 w1 ⟨rfl, ⟨nd, rfl⟩⟩)
  go_wp2
  go_ret2
  have hb : Below w.heap.size w ((w.drewN nd).alloc (Obj.map #[] 0)) := (pw_below_drewN (Below.refl _ _) nd).alloc (Nat.le_refl _) _
  refine ⟨sz, HP.out, HC.out, rfl, hb.alloc hb.size _, ⟨_, heap_alloc2_new (w.drewN nd) (Obj.map #[] 0) _, new_lv c two sz st w.heap.size⟩, ?_⟩
  exact (World.ownsMap_made (w.drewN nd) Try.prog 22 Rp).alloc _
theorem New_bad (c : Int) (two : Bool) (st : Int) (h : c < 1 ∨ 64 < c) (w : World) : Calls Try.prog 10 #[.int .i64 c, .bool two, .int .u64 st] w fun e w' =>
    e = .returned (.tuple #[.pointer none, .int .i64 80]) ∧ Below w.heap.size w w' := by
  by_cases h1 : c < 1
  · have d1 : decide (c < 1) = true := decide_eq_true h1
    go_enter Try.func10, Try.ntmps10
    go_wp2
    go_ret2
    exact ⟨rfl, Below.refl _ _⟩
  · have d1 : decide (c < 1) = false := decide_eq_false h1
    have d2 : decide (c > 64) = true := decide_eq_true (by omega)
    have d2' : decide (64 < c) = true := decide_eq_true (by omega)
    go_enter Try.func10, Try.ntmps10
    go_wp2
    go_ret2
    exact ⟨rfl, Below.refl _ _⟩
end Go.Proofs.Ytglekbbdbnpohaa.QLn
