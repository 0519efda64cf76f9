/- Agenda: blocks, rows, drawn regions: own laws (as in chapter 08's texts, by tools/gen_bag.py). -/
import Derived.Test.YthjppjcmapgkpaaWLast
import Derived.Test.YthjppjcmapgkpaaWMore
import Derived.Test.YthjppjcmapgkpaaProg
import Derived.Test.YthjppjcmapgkpaaHpAg
import Derived.Lib.Hide
import Derived.RangeFuncBox
import Derived.Handy
import Derived.Deep.MidRow
import Derived.RegionTactic
import Derived.Deep.RegionHeld3
import Derived.Maps.RangeWalk
import Derived.Maps.OwnSet
import Derived.ArgAppend
import Derived.BigQuiet
namespace Go.Proofs.Ythjppjcmapgkpaa.QAg
open Go.RowKit Go.Proofs.YthjppjcmapgkpaaW.PrintWords Go.Proofs.YthjppjcmapgkpaaW.PrintLast Go.Proofs.YthjppjcmapgkpaaW.PrintMore
set_option linter.unusedVariables false
set_option linter.unusedSimpArgs false
/-! ### Blocks of many cells -/
def setAll (cur : Array Value) (o : Nat) : List Value → Array Value
  | [] => cur
  | v :: vs => setAll (cur.setIfInBounds o v) (o + 1) vs
theorem blk_setCells {g : Nat} {t : TypeId} : ∀ (vs : List Value) (o : Nat) (cur : Array Value) (w : World), w.heap[g]? = some (.cells cur t (0, 0)) → (w.setCells g o vs).heap[g]? = some (.cells (setAll cur o vs) t (0, 0))
  | [], _, _, _, h => h
  | v :: vs, o, cur, w, h => blk_setCells vs (o + 1) (cur.setIfInBounds o v) (w.setCell ⟨g, o, none⟩ v) (blk_set h o v)
theorem below_setCells {B g : Nat} {w0 : World} (hg : B ≤ g) : ∀ (vs : List Value) (o : Nat) (w : World), Below B w0 w → Below B w0 (w.setCells g o vs)
  | [], _, _, h => h
  | v :: vs, o, w, h => below_setCells hg vs (o + 1) (w.setCell ⟨g, o, none⟩ v) (h.setCell (p := ⟨g, o, none⟩) hg v)
theorem own_setCells {g base size n : Nat} {e : TypeId} {v : Value} {xs : List Value} (hne : some g ≠ v.ownBlock) : ∀ (vs : List Value) (o : Nat) (w : World), w.ownsRow base e size v n xs → (w.setCells g o vs).ownsRow base e size v n xs
  | [], _, _, h => h
  | u :: vs, o, w, h => own_setCells hne vs (o + 1) (w.setCell ⟨g, o, none⟩ u) (own_setCell h (p := ⟨g, o, none⟩) hne u)
theorem there_of_block {w : World} {b : Nat} {cs : Array Value} {t : TypeId} (h : w.heap[b]? = some (.cells cs t (0, 0))) (o n : Nat) (hn : o + n ≤ cs.size) : w.there b o n := fun j hj => by
  have hlt : o + j < cs.size := by omega
  constructor
  · simp [World.cell?, h, hlt]
  · simp [World.frozen?, h]
theorem own_ne {w : World} {base size n g : Nat} {e t : TypeId} {v : Value} {xs : List Value} {cs : Array Value} (h : w.ownsRow base e size v n xs) (hg : w.heap[g]? = some (.cells cs t (0, 0))) (hte : t ≠ e) : some g ≠ v.ownBlock := by
  intro he
  obtain ⟨cells, hc⟩ := own_typed h g he.symm
  rw [hg] at hc
  injection hc with hc
  injection hc with _ hc
  exact hte hc

theorem far_setCells {g k : Nat} (hne : k ≠ g) : ∀ (vs : List Value) (o : Nat) (w : World), (w.setCells g o vs).heap[k]? = w.heap[k]?
  | [], _, _ => rfl
  | v :: vs, o, w => (far_setCells hne vs (o + 1) (w.setCell ⟨g, o, none⟩ v)).trans (Below.heap_setCell w ⟨g, o, none⟩ v k hne)
/-! ### Stores of structs -/
section
variable {P : Program}
theorem store_blk {ops : Array Oper} {rest : List Oper} {op : Oper} {a : Act} {w : World} {Q : Exit → Act → World → Prop} (hgd : op.guard = none) (ty : TypeId) (x y : Operand) (ho : op.op = .store ty x y)
    (g o : Nat) (cells cur : Array Value) (t : TypeId) (hx : a.eval x = .pointer (some ⟨g, o, none⟩)) (hy : a.eval y = .agg cells)
    (hw : w.heap[g]? = some (.cells cur t (0, 0))) (hsz : o + cells.size ≤ cur.size) (hi : (P.info? ty).map (·.size) = some cells.size) (h1 : cells.all (·.oneCell') = true)
    (h : ∀ w', w' = w.setCells g o cells.toList → w'.heap[g]? = some (.cells (setAll cur o cells.toList) t (0, 0)) → wpList P ops Q rest (a.put op.dst undef) w') : wpList P ops Q (op :: rest) a w :=
  wpList_store_mid hgd ty x y ho g o cells hx hy (there_of_block hw o _ hsz) hi h1 (h _ rfl (blk_setCells _ _ _ _ hw))
end
section
variable {P : Program}
theorem range_blk {w : World} {g : Nat} {C : Array Value} {t : TypeId} (hw : w.heap[g]? = some (.cells C t (0, 0))) : w.rangeAt g 0 C.toList := by
  have := World.rangeAt_of_block hw 0 C.size
  simpa using this
theorem load_blk {ops : Array Oper} {rest : List Oper} {op : Oper} {a : Act} {w : World} {Q : Exit → Act → World → Prop} (hgd : op.guard = none) (ty : TypeId) (x : Operand) (ho : op.op = .load ty x)
    (g : Nat) (C : Array Value) (t : TypeId) (hx : a.eval x = .pointer (some ⟨g, 0, none⟩)) (d : TypeDesc) (hw : w.heap[g]? = some (.cells C t (0, 0)))
    (hu : P.underlying ty = some d) (hd : d.isRow = true) (hi : (P.info? ty).map (·.size) = some C.size)
    (h : wpList P ops Q rest (a.put op.dst (.agg C)) w) : wpList P ops Q (op :: rest) a w :=
  wpList_load_mid hgd ty x ho g 0 hx C.toList d (range_blk hw) hu hd (by simpa using hi) h
theorem yields_blk {ops : Array Oper} {S : World → Prop} {op : Oper} {a : Act} (hw : Region.wanted op (yielded ops a.tmps) = true) (ty : TypeId) (x : Operand) (ho : op.op = .load ty x)
    (g : Nat) (C : Array Value) (t : TypeId) (hx : a.eval x = .pointer (some ⟨g, 0, none⟩)) (d : TypeDesc) (hS : ∀ w, S w → w.heap[g]? = some (.cells C t (0, 0)))
    (hu : P.underlying ty = some d) (hd : d.isRow = true) (hi : (P.info? ty).map (·.size) = some C.size) : YieldsIf P ops S op (.agg C) a :=
  yieldsIf_load_mid hw ty x ho g 0 hx C.toList d (fun w h => range_blk (hS w h)) hu hd (by simpa using hi)
theorem take_at {ops : Array Oper} {Q : Exit → Act → World → Prop} {md : Region.Mode} {S : World → Prop} {i : Nat} {oi : Oper} {v : Value} {fuel : Nat} {listed : Array Bool} {a : Act} {w : World} (n : Nat) (hi : ops[i]? = some oi) (hd : oi.dst = some n)
    (hs : Region.noSelect ops = true) (hf : Region.free md ops listed i = true) (hr : (Region.ready md ops listed).contains i = true)
    (hQ : ∀ c a w, Q (.panic c) (a.put (some n) v) w → Q (.panic c) a w) (hy : YieldsIf P ops S oi v a) (hS : S w)
    (h : wpAnyH P md ops Q S fuel (listed.setIfInBounds i true) (a.put (some n) v) w) : wpAnyH P md ops Q S (fuel + 1) listed a w :=
  wpAnyH_take hi hs hf hr (by rw [hd]; exact hQ) hy hS (by rw [hd]; exact h)
theorem store_at {op : Oper} {a : Act} {w : World} {K : Act → World → Prop} {Q : Exit → Act → World → Prop} (hd : op.dst = none) (ty : TypeId) (x y : Operand) (ho : op.op = .store ty x y)
    (b o : Nat) (cells : Array Value) (hx : a.eval x = .pointer (some ⟨b, o, none⟩)) (hy : a.eval y = .agg cells)
    (ht : w.there b o cells.size) (hi : (P.info? ty).map (·.size) = some cells.size) (h1 : cells.all (·.oneCell') = true)
    (h : K a (w.setCells b o cells.toList)) : op.wp P a w K Q :=
  wp_store_mid ty x y ho b o cells hx hy ht hi h1 (by rw [hd]; exact h)
end
section
variable {P : Program}
theorem run_load_any (w : World) (ad : Addr) (ty : TypeId) (cs : List Value) (d : TypeDesc) (hc : ∀ j v, cs[j]? = some v → w.cell? (ad.add j) = some v)
    (hu : P.underlying ty = some d) (hd : d.isRow = true) (hi : (P.info? ty).map (·.size) = some cs.length) : (loadVar ty ad).run P w = .ok (.agg cs.toArray) w := by
  have hl : (loadCells ad cs.length).run P w = .ok cs.toArray w := run_loadCells_list (P := P) w ad cs hc
  cases hq : P.info? ty with
  | none => simp [hq] at hi
  | some i =>
    have hs : i.size = cs.length := by simpa [hq] using hi
    have hagg : (isAgg ty).run P w = .ok true w := by
      unfold isAgg
      rw [Sem.run_bind, run_underlying hu w]
      cases d <;> simp_all
    simp [loadVar, Sem.run_bind, hagg, sizeOf, typeInfo, hq, hs, hl]
theorem load_any {ops : Array Oper} {rest : List Oper} {op : Oper} {a : Act} {w : World} {Q : Exit → Act → World → Prop} (hgd : op.guard = none) (ty : TypeId) (x : Operand) (ho : op.op = .load ty x)
    (ad : Addr) (hx : a.eval x = .pointer (some ad)) (C : Array Value) (d : TypeDesc) (hc : ∀ j v, C.toList[j]? = some v → w.cell? (ad.add j) = some v)
    (hu : P.underlying ty = some d) (hd : d.isRow = true) (hi : (P.info? ty).map (·.size) = some C.size)
    (h : wpList P ops Q rest (a.put op.dst (.agg C)) w) : wpList P ops Q (op :: rest) a w :=
  wpList_plain hgd fun _ hK => by
    unfold Oper.wp execOp
    simp only [ho, hx, Instr.loadAt, Instr.sureAddr, Sem.run_bind, Sem.run_pure, Result.andThen_ok, run_load_any w ad ty C.toList d hc hu hd (by simpa using hi)]
    exact hK _ _ h
end
theorem add_add' (a : Addr) (m n : Nat) : (a.add m).add n = a.add (m + n) := by
  unfold Addr.add
  by_cases hm : m = 0
  · subst hm; simp
  · by_cases hn : n = 0
    · subst hn; simp
    · have : m + n ≠ 0 := by omega
      simp [hm, hn, this, Nat.add_assoc]
theorem obj_below {w w' : World} {g : Nat} {C : Obj} (hb : Below w.heap.size w w') (h : w.heap[g]? = some C) : w'.heap[g]? = some C := (hb.block _ (Array.getElem?_eq_some_iff.1 h).1).trans h
theorem range_below {w w' : World} {b o : Nat} {cs : List Value} (hb : Below w.heap.size w w') (h : w.rangeAt b o cs) : w'.rangeAt b o cs := fun j v hv => pw_cell_below hb (h j v hv)

/-! ### Nothing but two blocks -/
structure Far (b m : Nat) (w w' : World) : Prop where
  os : w'.os = w.os
  tape : w'.tape = w.tape
  output : w'.output = w.output
  size : w.heap.size ≤ w'.heap.size
  block : ∀ i, i < w.heap.size → i ≠ b → i ≠ m → w'.heap[i]? = w.heap[i]?
theorem Far.refl (b m : Nat) (w : World) : Far b m w w := ⟨rfl, rfl, rfl, Nat.le_refl _, fun _ _ _ _ => rfl⟩
theorem Far.trans {b m : Nat} {u v w : World} (h : Far b m u v) (k : Far b m v w) : Far b m u w :=
  ⟨k.os.trans h.os, k.tape.trans h.tape, k.output.trans h.output, Nat.le_trans h.size k.size, fun i hi h1 h2 => (k.block i (Nat.lt_of_lt_of_le hi h.size) h1 h2).trans (h.block i hi h1 h2)⟩
theorem Far.of_below {b m : Nat} {w w' : World} (h : Below w.heap.size w w') : Far b m w w' := ⟨h.os, h.tape, h.output, h.size, fun i hi _ _ => h.block i hi⟩
theorem Far.setCell {b m : Nat} {w0 w : World} (h : Far b m w0 w) (o : Nat) (v : Value) : Far b m w0 (w.setCell ⟨b, o, none⟩ v) :=
  h.trans ⟨rfl, rfl, rfl, by simp [World.setCell], fun i _ h1 _ => Below.heap_setCell _ _ _ _ h1⟩
theorem Far.setCells {b m : Nat} {w0 : World} : ∀ (vs : List Value) (o : Nat) (w : World), Far b m w0 w → Far b m w0 (w.setCells b o vs)
  | [], _, _, h => h
  | v :: vs, o, w, h => Far.setCells vs (o + 1) (w.setCell ⟨b, o, none⟩ v) (h.setCell o v)
theorem Far.grown {b m : Nat} {w0 w w' : World} (h : Far b m w0 w) (hg : w.grownBy w' (some m)) : Far b m w0 w' :=
  h.trans ⟨hg.os, hg.tape, hg.output, hg.size, fun i hi _ h2 => hg.block i hi (fun e => h2 (by cases e; rfl))⟩
theorem Far.up {b m B : Nat} {w0 w w' : World} (h : Below B w0 w) (hB : B ≤ w.heap.size) (hb : B ≤ b) (hm : B ≤ m) (k : Far b m w w') : Below B w0 w' :=
  h.trans ⟨k.os, k.tape, k.output, k.size, fun i hi => k.block i (by omega) (by omega) (by omega)⟩

theorem get_setAll : ∀ (vs : List Value) (A : Array Value) (o j : Nat), o + vs.length ≤ A.size → (setAll A o vs)[j]? = if o ≤ j ∧ j < o + vs.length then vs[j - o]? else A[j]?
  | [], A, o, j, h => by
    rw [if_neg (by simp <;> omega), QAg.setAll]
  | v :: vs, A, o, j, h => by
    simp only [List.length_cons] at h ⊢
    show (setAll (A.setIfInBounds o v) (o + 1) vs)[j]? = _
    rw [get_setAll vs (A.setIfInBounds o v) (o + 1) j (by rw [Array.size_setIfInBounds]; omega)]
    by_cases h1 : o + 1 ≤ j ∧ j < o + 1 + vs.length
    · rw [if_pos h1, if_pos (by omega), show j - o = (j - (o + 1)) + 1 by omega, List.getElem?_cons_succ]
    · rw [if_neg h1, Array.getElem?_setIfInBounds]
      by_cases h2 : o = j
      · subst h2
        rw [if_pos rfl, if_pos (by omega), if_pos (by omega), Nat.sub_self]; rfl
      · rw [if_neg h2, if_neg (by omega)]
theorem size_setAll : ∀ (vs : List Value) (A : Array Value) (o : Nat), (setAll A o vs).size = A.size
  | [], _, _ => rfl
  | v :: vs, A, o => (size_setAll vs _ _).trans (Array.size_setIfInBounds ..)
/-- A row of n elements, wherever it begins in its block: the block lies from B on. -/
def RowQ (w : World) (B : Nat) (e : TypeId) (sz : Nat) (v : Value) (n : Nat) (xs : List Value) : Prop :=
  xs.length = n * sz ∧ ((n = 0 ∧ ∃ A, v = .slice A 0 0) ∨
    ∃ g o cap cur, v = .slice (some ⟨g, o, none⟩) n cap ∧ 0 < cap ∧ B ≤ g ∧ w.heap[g]? = some (.cells cur e (0, 0)) ∧ n ≤ cap ∧ o + cap * sz ≤ cur.size ∧ ∀ j u, xs[j]? = some u → cur[o + j]? = some u)
/-- Nothing has turned but blocks of this type from B on. -/
structure Only (B : Nat) (e : TypeId) (w w' : World) : Prop where
  os : w'.os = w.os
  tape : w'.tape = w.tape
  output : w'.output = w.output
  size : w.heap.size ≤ w'.heap.size
  block : ∀ i, i < w.heap.size → w'.heap[i]? = w.heap[i]? ∨ (B ≤ i ∧ ∃ cur, w.heap[i]? = some (.cells cur e (0, 0)))
theorem Only.of_grown {B : Nat} {e : TypeId} {w w' : World} (h : w.grownBy w' none) : Only B e w w' :=
  ⟨h.os, h.tape, h.output, h.size, fun i hi => Or.inl (h.block i hi (by simp))⟩
theorem Only.old {B : Nat} {e : TypeId} {w w' : World} (h : Only B e w w') {i : Nat} (hi : i < w.heap.size) (hB : i < B) : w'.heap[i]? = w.heap[i]? := by
  rcases h.block i hi with h1 | ⟨h1, _⟩
  · exact h1
  · omega
theorem os_setCells {g : Nat} : ∀ (vs : List Value) (o : Nat) (w : World), (w.setCells g o vs).os = w.os ∧ (w.setCells g o vs).tape = w.tape ∧ (w.setCells g o vs).output = w.output ∧ (w.setCells g o vs).heap.size = w.heap.size
  | [], _, _ => ⟨rfl, rfl, rfl, rfl⟩
  | v :: vs, o, w => by
    obtain ⟨h1, h2, h3, h4⟩ := os_setCells (g := g) vs (o + 1) (w.setCell ⟨g, o, none⟩ v)
    exact ⟨h1, h2, h3, h4.trans (by simp [World.setCell])⟩
theorem Only.set {B g : Nat} {e : TypeId} {w : World} {cur : Array Value} (hB : B ≤ g) (hw : w.heap[g]? = some (.cells cur e (0, 0))) (o : Nat) (vs : List Value) : Only B e w (w.setCells g o vs) := by
  obtain ⟨h1, h2, h3, h4⟩ := os_setCells (g := g) vs o w
  refine ⟨h1, h2, h3, by rw [h4]; exact Nat.le_refl _, fun i hi => ?_⟩
  by_cases hg : i = g
  · subst hg; exact Or.inr ⟨hB, _, hw⟩
  · exact Or.inl (far_setCells hg vs o w)
section
variable {w w' : World} {B : Nat} {e : TypeId} {sz : Nat} {v : Value} {n : Nat} {xs : List Value}
theorem RowQ.nil (w : World) (B : Nat) (e : TypeId) (sz : Nat) : RowQ w B e sz (.slice none 0 0) 0 [] := ⟨by simp, Or.inl ⟨rfl, _, rfl⟩⟩
theorem RowQ.own (h : w.ownsRow B e sz v n xs) (hn : 0 < n) : RowQ w B e sz v n xs := by
  obtain ⟨h1, h2⟩ := h
  rcases h2 with ⟨_, h2⟩ | ⟨g, cap, cur, rfl, q1, q2, q3, q4, q5, q6⟩
  · omega
  · refine ⟨h1, Or.inr ⟨g, 0, cap, cur, rfl, by omega, q1, q2, q3, by omega, fun j u hj => ?_⟩⟩
    rw [← q6] at hj
    rw [Nat.zero_add, ← Array.getElem?_toList]
    rw [List.getElem?_take] at hj
    split at hj
    · exact hj
    · cases hj
theorem RowQ.base {B' : Nat} (h : RowQ w B e sz v n xs) (hB : B' ≤ B) : RowQ w B' e sz v n xs := by
  obtain ⟨h1, h2⟩ := h
  refine ⟨h1, ?_⟩
  rcases h2 with h2 | ⟨g, o, cap, cur, rfl, q0, q1, q2⟩
  · exact Or.inl h2
  · exact Or.inr ⟨g, o, cap, cur, rfl, q0, Nat.le_trans hB q1, q2⟩
theorem RowQ.of (h : RowQ w B e sz v n xs) (hk : ∀ g cur, B ≤ g → w.heap[g]? = some (.cells cur e (0, 0)) → w'.heap[g]? = w.heap[g]?) : RowQ w' B e sz v n xs := by
  obtain ⟨h1, h2⟩ := h
  refine ⟨h1, ?_⟩
  rcases h2 with h2 | ⟨g, o, cap, cur, rfl, q0, q1, q2, q3⟩
  · exact Or.inl h2
  · exact Or.inr ⟨g, o, cap, cur, rfl, q0, q1, (hk g cur q1 q2).trans q2, q3⟩
theorem RowQ.only {e' : TypeId} (h : RowQ w B e sz v n xs) (ho : Only B e' w w') (hne : e ≠ e') : RowQ w' B e sz v n xs := by
  refine h.of (fun g cur hg hw => ?_)
  have hlt : g < w.heap.size := (Array.getElem?_eq_some_iff.1 hw).1
  rcases ho.block g hlt with h1 | ⟨_, c, h1⟩
  · exact h1
  · rw [hw] at h1
    injection h1 with h1
    injection h1 with _ h1
    exact absurd h1 hne
theorem RowQ.below (h : RowQ w B e sz v n xs) (j : Below w.heap.size w w') : RowQ w' B e sz v n xs :=
  h.of (fun g cur _ hw => j.block g (Array.getElem?_eq_some_iff.1 hw).1)
theorem RowQ.form (h : RowQ w B e sz v n xs) : ∃ A c, v = .slice A n c ∧ n ≤ c := by
  obtain ⟨h1, h2⟩ := h
  rcases h2 with ⟨rfl, A, rfl⟩ | ⟨g, o, cap, cur, rfl, q0, q1, q2, q3, _⟩
  · exact ⟨_, _, rfl, Nat.le_refl _⟩
  · exact ⟨_, _, rfl, q3⟩
/-- A row that is not empty: where it lies. -/
theorem RowQ.lies (h : RowQ w B e sz v n xs) (hn : 0 < n) : ∃ g o cap cur, v = .slice (some ⟨g, o, none⟩) n cap ∧ B ≤ g ∧ w.heap[g]? = some (.cells cur e (0, 0)) ∧ n ≤ cap ∧ o + cap * sz ≤ cur.size ∧ ∀ j u, xs[j]? = some u → cur[o + j]? = some u := by
  obtain ⟨h1, h2⟩ := h
  rcases h2 with ⟨rfl, _⟩ | ⟨g, o, cap, cur, rfl, q0, q1, q2, q3, q4, q5⟩
  · omega
  · exact ⟨g, o, cap, cur, rfl, q1, q2, q3, q4, q5⟩
theorem RowQ.tail {g o cap : Nat} {x : List Value} (h : RowQ w B e sz (.slice (some ⟨g, o, none⟩) (n + 1) cap) (n + 1) (x ++ xs)) (hx : x.length = sz) :
    RowQ w B e sz (.slice (if cap = 1 then some ⟨g, o, none⟩ else some ⟨g, o + sz, none⟩) n (cap - 1)) n xs := by
  obtain ⟨h1, h2⟩ := h
  have hlen : xs.length = n * sz := by rw [List.length_append, hx, Nat.add_mul] at h1; omega
  refine ⟨hlen, ?_⟩
  rcases h2 with ⟨h2, _⟩ | ⟨g', o', cap', cur, hv, q0, q1, q2, q3, q4, q5⟩
  · omega
  · injection hv with e1 e2 e3
    injection e1 with e1
    injection e1 with e4 e5
    subst e3 e4 e5
    by_cases hc : cap = 1
    · have hn0 : n = 0 := by omega
      subst hn0
      rw [if_pos hc, hc]
      exact Or.inl ⟨rfl, _, rfl⟩
    · rw [if_neg hc]
      refine Or.inr ⟨g, o + sz, cap - 1, cur, rfl, by omega, q1, q2, by omega, ?_, fun j u hj => ?_⟩
      · have : cap * sz = (cap - 1) * sz + sz := by rw [← Nat.succ_mul]; congr 1; omega
        omega
      · rw [Nat.add_assoc]
        refine q5 (sz + j) u ?_
        rw [List.getElem?_append_right (by omega), hx, Nat.add_sub_cancel_left]
        exact hj
theorem RowQ.set {g o cap : Nat} {cur : Array Value} (h : xs.length = n * sz) (hc : 0 < cap) (hB : B ≤ g) (hw : w.heap[g]? = some (.cells cur e (0, 0))) (hn : n ≤ cap) (hs : o + cap * sz ≤ cur.size)
    (hq : ∀ j u, xs[j]? = some u → cur[o + j]? = some u) (i : Nat) (hi : i < n) (vs : List Value) (hv : vs.length = sz) (ys : List Value) (hy : ys.length = xs.length)
    (h1 : ∀ j, j < sz → ys[i * sz + j]? = vs[j]?) (h2 : ∀ j, j < i * sz ∨ i * sz + sz ≤ j → ys[j]? = xs[j]?) :
    RowQ (w.setCells g (o + i * sz) vs) B e sz (.slice (some ⟨g, o, none⟩) n cap) n ys := by
  have hb := blk_setCells vs (o + i * sz) cur w hw
  have hle : i * sz + sz ≤ cap * sz := by rw [← Nat.succ_mul]; exact Nat.mul_le_mul_right _ (by omega)
  refine ⟨by rw [hy, h], Or.inr ⟨g, o, cap, _, rfl, hc, hB, hb, hn, by rw [size_setAll]; exact hs, fun j u hj => ?_⟩⟩
  rw [get_setAll _ _ _ _ (by rw [hv]; omega), hv]
  by_cases hin : i * sz ≤ j ∧ j < i * sz + sz
  · rw [if_pos (by omega)]
    have := h1 (j - i * sz) (by omega)
    rw [show i * sz + (j - i * sz) = j by omega] at this
    rw [show o + j - (o + i * sz) = j - i * sz by omega, ← this, hj]
  · rw [if_neg (by omega)]
    exact hq j u (by rw [← h2 j (by omega)]; exact hj)
end
/-- Appending one element, whatever the row is. -/
theorem wpList_append_Q {P : Program} (w : World) {ops : Array Oper} {rest : List Oper} {o : Oper} {a : Act} {Q : Exit → Act → World → Prop}
    (hg : o.guard = none) (s x : Operand) (t : TypeId) (hop : o.op = Op.call { callee := Callee.builtin Builtin.append, args := #[s, x], argTypes := #[t, t] })
    (e : TypeId) (i : TypeInfo) (z : Value) (size bytes : Nat) (h1 : P.underlying t = some (.slice e)) (h2 : P.info? e = some i) (h3 : i.zero = some z) (h4 : i.size = size) (h5 : i.bytes = bytes) (h6 : z.cells.size = size) (h7 : 0 < size)
    (B : Nat) (v : Value) (n : Nat) (xs : List Value) (hs : a.eval s = v) (hrow : RowQ w B e size v n xs) (hB : B ≤ w.heap.size)
    (ad : Addr) (c : Nat) (news : List Value) (hx : a.eval x = .slice (some ad) 1 c) (hn : news.length = size) (hc : ∀ j u, news[j]? = some u → w.cell? (ad.add j) = some u) (h1c : ∀ u ∈ news, u.oneCell' = true)
    (b1 : n + 1 ≤ maxLen) (b2 : (n + 1) * bytes ≤ 140737488355328)
    (hK : ∀ v' w', RowQ w' B e size v' (n + 1) (xs ++ news) → Only B e w w' → wpList P ops Q rest (a.put o.dst v') w') :
    wpList P ops Q (o :: rest) a w := by
  obtain ⟨hl, hr⟩ := hrow
  have hn1 : news.length = 1 * size := by rw [hn, Nat.one_mul]
  rcases hr with ⟨rfl, A, rfl⟩ | ⟨g, off, cap, cur, rfl, q0, q1, q2, q3, q4, q5⟩
  · have hx0 : xs = [] := List.eq_nil_of_length_eq_zero (by omega)
    subst hx0
    refine wpList_append_grows w hg s x t hop e i z size bytes h1 h2 h3 h4 h5 h6 h7 A 0 0 [] hs (fun _ => ⟨rfl, rfl⟩) hl (fun b hb j u hj => by simp at hj) ad 1 c news hx hn1 hc h1c (by omega) b1 b2 (fun v' w' ho hgr => ?_)
    exact hK v' w' ((RowQ.own ho (by omega)).base hB) (Only.of_grown hgr)
  · refine wpList_append_arg w hg s x t hop e i z size bytes h1 h2 h3 h4 h5 h6 h7 g off n cap xs hs hl (fun j u hj => ?_) ad 1 c news hx hn1 hc h1c (fun hroom j hj => ?_) b1 b2 (fun hroom => ?_) (fun hfull v' w' ho hgr => ?_)
    · simp only [World.cell?, q2]
      exact q5 j u hj
    · have hle : n * size + size ≤ cap * size := by rw [← Nat.succ_mul]; exact Nat.mul_le_mul_right _ hroom
      rw [hn] at hj
      have hlt : off + n * size + j < cur.size := by omega
      constructor
      · simp [World.cell?, q2, hlt]
      · simp [World.frozen?, q2]
    · refine hK _ _ ?_ (Only.set q1 q2 _ _)
      have hle : n * size + size ≤ cap * size := by rw [← Nat.succ_mul]; exact Nat.mul_le_mul_right _ hroom
      refine ⟨by rw [List.length_append, hl, hn, Nat.add_mul, Nat.one_mul], Or.inr ⟨g, off, cap, _, rfl, q0, q1, blk_setCells _ _ _ _ q2, hroom, by rw [size_setAll]; exact q4, fun j u hj => ?_⟩⟩
      rw [get_setAll _ _ _ _ (by omega)]
      by_cases hlt : j < n * size
      · rw [if_neg (by omega)]
        rw [List.getElem?_append_left (by omega)] at hj
        exact q5 j u hj
      · rw [List.getElem?_append_right (by omega), hl] at hj
        have := (List.getElem?_eq_some_iff.1 hj).1
        rw [if_pos (by omega), show off + j - (off + n * size) = j - n * size by omega]
        exact hj
    · exact hK v' w' ((RowQ.own ho (by omega)).base hB) (Only.of_grown hgr)
section
variable {P : Program} {ops : Array Oper} {Q : Exit → Act → World → Prop} {md : Region.Mode} {S : World → Prop} {N : List Nat}
/-- Operation j waits for each of N. -/
def waitsFor (md : Region.Mode) (ops : Array Oper) (N : List Nat) (j : Nat) : Bool :=
  match ops[j]? with
  | some o => N.all (fun n => o.after.any (fun e => Region.binds md e && e.on == n))
  | none => false
theorem waits_edge {j n : Nat} {o : Oper} (ho : ops[j]? = some o) (h : waitsFor md ops N j = true) (hn : n ∈ N) : ∃ e ∈ o.after, Region.binds md e = true ∧ e.on = n := by
  unfold waitsFor at h
  simp only [ho] at h
  have h1 := List.all_eq_true.1 h n hn
  rw [Array.any_eq_true'] at h1
  obtain ⟨e, he, h2⟩ := h1
  rw [Bool.and_eq_true] at h2
  exact ⟨e, he, h2.1, beq_iff_eq.1 h2.2⟩
/-- Whatever order is drawn: S goes on to hold, but behind an operation that waits for all of N. -/
def anyN (P : Program) (md : Region.Mode) (ops : Array Oper) (Q : Exit → Act → World → Prop) (S : World → Prop) (N : List Nat) : Nat → Array Bool → Act → World → Prop
  | 0, ls, a, w => Region.ready md ops ls = [] ∧ Q .normal a w
  | n + 1, ls, a, w => (Region.ready md ops ls = [] → Q .normal a w) ∧ ∀ j ∈ Region.ready md ops ls, wpOp P ops Q j (fun a' w' => (S w → S w' ∨ waitsFor md ops N j = true) ∧ anyN P md ops Q S N n (ls.setIfInBounds j true) a' w') a w
theorem anyN_any : ∀ (n : Nat) (ls : Array Bool) (a : Act) (w : World), anyN P md ops Q S N n ls a w → wpAny P md ops Q n ls a w
  | 0, _, _, _, h => h
  | n + 1, _, _, _, h => ⟨h.1, fun j hj => wpOp_mono (fun _ _ k => anyN_any n _ _ _ k.2) (h.2 j hj)⟩
theorem startN {id : Nat} {a : Act} {w : World} (hm : P.follows .mixedOrders = true) (h : anyN P .any ops Q S N ops.size (Array.replicate ops.size false) a w.drew) : (Code.region id ops true).wp P Q a w :=
  wp_region_any hm (anyN_any _ _ _ _ h)
theorem doneN {ls : Array Bool} {a : Act} {w : World} (hr : Region.ready md ops ls = []) (h : Q .normal a w) (n : Nat) : anyN P md ops Q S N n ls a w := by
  cases n with
  | zero => exact ⟨hr, h⟩
  | succ n => exact ⟨fun _ => h, fun j hj => by rw [hr] at hj; cases hj⟩
/-- An operation whose value hangs on S alone, and which is one of N, may come first. -/
theorem firstN {i : Nat} {oi : Oper} {v : Value} (hi : ops[i]? = some oi) (hsel : ∀ (j : Nat) (o : Oper) cs b, ops[j]? = some o → o.op ≠ .select cs b)
    (hQ : ∀ c a w, Q (.panic c) (a.put oi.dst v) w → Q (.panic c) a w) {T : World → Prop} (hT : (∀ w, T w) ∨ (T = S ∧ i ∈ N)) (n : Nat) : ∀ (ls : Array Bool) (a : Act) (w : World),
      (∀ j oj, ops[j]? = some oj → j ≠ i → ls.getD j true = false → (∀ e ∈ oj.after, Region.binds md e = true → e.on ≠ i) → oi.apart ops oj = true) →
      i ∈ Region.ready md ops ls → YieldsIf P ops T oi v a → T w →
      anyN P md ops Q S N n (ls.setIfInBounds i true) (a.put oi.dst v) w → anyN P md ops Q S N (n + 1) ls a w := by
  induction n with
  | zero =>
    intro ls a w _ hr hy hw h
    constructor
    · intro h0; rw [h0] at hr; cases hr
    · intro j hj
      rcases Nat.decEq j i with hne | rfl
      · have h1 := ready_mono hj hne
        rw [h.1] at h1
        cases h1
      · exact hy.wpOp hi hw ⟨Or.inl, h⟩
  | succ n ih =>
    intro ls a w hf hr hy hw h
    constructor
    · intro h0; rw [h0] at hr; cases hr
    · intro j hj
      rcases Nat.decEq j i with hne | rfl
      · obtain ⟨hju, oj, hoj, hed⟩ := mem_ready.1 hj
        have hiu := (mem_ready.1 hr).1
        have hno : ∀ e ∈ oj.after, Region.binds md e = true → e.on ≠ i := by
          intro e he hb hi'
          have h2 := hed e he hb
          rw [hi'] at h2
          rw [Array.getD_eq_getD_getElem?] at h2 hiu
          cases hls : ls[i]? with
          | none => rw [hls] at h2; cases h2
          | some b => rw [hls] at h2 hiu; simp only [Option.getD_some] at h2 hiu; rw [h2] at hiu; cases hiu
        have hap := hf j oj hoj hne hju hno
        have h1 := wpOp_putIf hoj hap (fun cs b => hsel i oi cs b hi) (fun cs b => hsel j oj cs b hoj) hQ hy (h.2 j (ready_mono hj hne))
        refine wpOp_mono (fun a' w' k => ⟨k.2.1, ih _ a' w' ?_ (ready_mono hr (fun e => hne e.symm)) k.1 ?_ ?_⟩) h1
        · intro k' ok hk hki hun hno'
          refine hf k' ok hk hki ?_ hno'
          rcases Nat.decEq j k' with hjk | rfl
          · rwa [getD_set_ne true hjk] at hun
          · exact hju
        · rcases hT with hT | ⟨rfl, hiN⟩
          · exact hT _
          · rcases k.2.1 hw with k1 | k1
            · exact k1
            · obtain ⟨e, he, hb, hon⟩ := waits_edge hoj k1 hiN
              exact absurd hon (hno e he hb)
        · have := k.2.2
          rwa [Array.setIfInBounds_comm _ _ (fun e => hne e.symm)] at this
      · exact hy.wpOp hi hw ⟨Or.inl, h⟩
theorem takeN {i : Nat} {oi : Oper} {v : Value} {n : Nat} {ls : Array Bool} {a : Act} {w : World} (d : Nat) (hi : ops[i]? = some oi) (hd : oi.dst = some d) (hs : Region.noSelect ops = true) (hf : Region.free md ops ls i = true) (hr : (Region.ready md ops ls).contains i = true)
    (hQ : ∀ c a w, Q (.panic c) (a.put (some d) v) w → Q (.panic c) a w) (hN : N.contains i = true) (hy : YieldsIf P ops S oi v a) (hw : S w) (h : anyN P md ops Q S N n (ls.setIfInBounds i true) (a.put (some d) v) w) : anyN P md ops Q S N (n + 1) ls a w :=
  firstN hi (Region.noSelect_spec hs) (by rw [hd]; exact hQ) (Or.inr ⟨rfl, by simpa using hN⟩) n ls a w (Region.free_spec hi hf) (by simpa using hr) hy hw (by rw [hd]; exact h)
theorem takeF {i : Nat} {oi : Oper} {v : Value} {n : Nat} {ls : Array Bool} {a : Act} {w : World} (d : Nat) (hi : ops[i]? = some oi) (hd : oi.dst = some d) (hs : Region.noSelect ops = true) (hf : Region.free md ops ls i = true) (hr : (Region.ready md ops ls).contains i = true)
    (hQ : ∀ c a w, Q (.panic c) (a.put (some d) v) w → Q (.panic c) a w) (hy : YieldsIf P ops (fun _ => True) oi v a) (h : anyN P md ops Q S N n (ls.setIfInBounds i true) (a.put (some d) v) w) : anyN P md ops Q S N (n + 1) ls a w :=
  firstN hi (Region.noSelect_spec hs) (by rw [hd]; exact hQ) (Or.inl fun _ => trivial) n ls a w (Region.free_spec hi hf) (by simpa using hr) hy trivial (by rw [hd]; exact h)
/-- What comes up is one of these. -/
def eachN (P : Program) (md : Region.Mode) (ops : Array Oper) (Q : Exit → Act → World → Prop) (S : World → Prop) (N : List Nat) (n : Nat) (ls : Array Bool) (a : Act) (w : World) (rs : List Nat) : Prop :=
  ∀ j ∈ rs, wpOp P ops Q j (fun a' w' => (S w → S w' ∨ waitsFor md ops N j = true) ∧ anyN P md ops Q S N n (ls.setIfInBounds j true) a' w') a w
theorem readyN {rs : List Nat} {n : Nat} {ls : Array Bool} {a : Act} {w : World} (hr : Region.ready md ops ls = rs) (hne : rs ≠ []) (h : eachN P md ops Q S N n ls a w rs) : anyN P md ops Q S N (n + 1) ls a w :=
  ⟨fun h0 => absurd (hr.symm.trans h0) hne, by rw [hr]; exact h⟩
theorem eachN.nil {n : Nat} {ls : Array Bool} {a : Act} {w : World} : eachN P md ops Q S N n ls a w [] := fun _ h => by cases h
theorem eachN.cons {n : Nat} {ls : Array Bool} {a : Act} {w : World} {i : Nat} {o : Oper} {rs : List Nat} (ho : ops[i]? = some o)
    (h : ∀ K : Act → World → Prop, Shut (∀ a w', S w' → (S w' → anyN P md ops Q S N n (ls.setIfInBounds i true) a w') → K a w') → if Region.wanted o (yielded ops a.tmps) = true then Oper.wp P o a w K Q else K (a.put o.dst undef) w)
    (hs : eachN P md ops Q S N n ls a w rs) : eachN P md ops Q S N n ls a w (i :: rs) := fun j hj => by
  rcases List.mem_cons.1 hj with rfl | hj
  · exact wpOp_step ho (fun K hK => h K (fun a w' h1 h2 => hK a w' ⟨fun _ => Or.inl h1, h2 h1⟩))
  · exact hs j hj
theorem eachN.last {n : Nat} {ls : Array Bool} {a : Act} {w : World} {i : Nat} {o : Oper} (ho : ops[i]? = some o) (hb : waitsFor md ops N i = true)
    (h : ∀ K : Act → World → Prop, Shut (∀ a w', anyN P md ops Q S N n (ls.setIfInBounds i true) a w' → K a w') → if Region.wanted o (yielded ops a.tmps) = true then Oper.wp P o a w K Q else K (a.put o.dst undef) w) : eachN P md ops Q S N n ls a w [i] := fun j hj => by
  rcases List.mem_cons.1 hj with rfl | hj
  · exact wpOp_step ho (fun K hK => h K (fun a w' h2 => hK a w' ⟨fun _ => Or.inr hb, h2⟩))
  · cases hj
end
/-! ### Appending row to row -/
/-- Elements that lie at a slice's address. -/
def SrcAt (w : World) (A : Option Addr) (ys : List Value) : Prop := ∀ (j : Nat) u, ys[j]? = some u → ∃ ad, A = some ad ∧ w.cell? (ad.add j) = some u
theorem SrcAt.nil (w : World) (A : Option Addr) : SrcAt w A [] := fun j u h => by simp at h
theorem RowQ.src {w : World} {B : Nat} {e : TypeId} {sz : Nat} {A : Option Addr} {c n : Nat} {xs : List Value} (h : RowQ w B e sz (.slice A n c) n xs) : SrcAt w A xs := by
  intro j u hj
  obtain ⟨h1, h2⟩ := h
  rcases h2 with ⟨rfl, _⟩ | ⟨g, o, cap, cur, hv, q0, q1, q2, q3, q4, q5⟩
  · have h0 : xs = [] := List.eq_nil_of_length_eq_zero (by omega)
    rw [h0] at hj
    simp at hj
  · injection hv with e1 e2 e3
    subst e1
    refine ⟨_, rfl, ?_⟩
    rw [Addr.add_lit]
    simp only [World.cell?, q2]
    exact q5 j u hj
section
variable {P : Program} (w : World)
theorem run_append_empty (t ty e : TypeId) (i : TypeInfo) (ht : P.underlying t = some (.slice e)) (hi : P.info? e = some i) (b : Addr) (S : Option Addr) (c : Nat) :
    (Builtin.append_ #[t, t] ty #[.slice (some b) 0 0, .slice S 0 c]).run P w = .ok (.slice (some b) 0 0) w := by
  cases S with
  | none => simp [Builtin.append_, run_underlying ht, sizeOf, typeInfo, hi, Builtin.lenOf, Builtin.firstCells, storeCells]
  | some a =>
    have hfc := run_firstCells_some (P := P) w i.size 0 a 0 c [] (by simp) (by simp)
    simp [Builtin.append_, run_underlying ht, sizeOf, typeInfo, hi, Builtin.lenOf, hfc, storeCells]
/-- A copy: a row appended to an empty slice without capacity. -/
theorem run_copy (t ty e : TypeId) (i : TypeInfo) (z : Value) (size bytes : Nat) (h1 : P.underlying t = some (.slice e)) (h2 : P.info? e = some i) (h3 : i.zero = some z) (h4 : i.size = size) (h5 : i.bytes = bytes) (h6 : z.cells.size = size) (h7 : 0 < size)
    (b : Addr) (S : Option Addr) (m c : Nat) (ys : List Value) (hl : ys.length = m * size) (hsrc : SrcAt w S ys) (b1 : m ≤ maxLen) (b2 : m * bytes ≤ 140737488355328) :
    ∃ v' w', (Builtin.append_ #[t, t] ty #[.slice (some b) 0 0, .slice S m c]).run P w = .ok v' w' ∧ RowQ w' w.heap.size e size v' m ys ∧ w.grownBy w' none := by
  rcases Nat.eq_zero_or_pos m with rfl | hm
  · have h0 : ys = [] := List.eq_nil_of_length_eq_zero (by omega)
    subst h0
    exact ⟨_, _, run_append_empty w t ty e i h1 h2 b S c, ⟨by simp, Or.inl ⟨rfl, _, rfl⟩⟩, ⟨rfl, rfl, rfl, Nat.le_refl _, fun _ _ _ => rfl⟩⟩
  · have hlt : 0 < ys.length := by rw [hl]; exact Nat.mul_pos hm h7
    obtain ⟨ad, rfl, _⟩ := hsrc 0 _ (List.getElem?_eq_getElem hlt)
    have hc : ∀ j u, ys[j]? = some u → w.cell? (ad.add j) = some u := fun j u hj => by
      obtain ⟨ad', e1, e2⟩ := hsrc j u hj
      cases e1
      exact e2
    obtain ⟨v', w', hrun, r1, r2⟩ := run_append_arg_grows (P := P) w t ty e i z size bytes h1 h2 h3 h4 h5 h6 h7 b 0 0 [] (by simp) (fun j u hj => by simp at hj) ad m c ys hl hc (by omega) (by omega) (by rw [Nat.zero_add]; exact b2)
    rw [Nat.zero_add, List.nil_append] at r1
    exact ⟨v', w', hrun, RowQ.own r1 hm, r2⟩
/-- A row appended to a row. -/
theorem run_append_row (t ty e : TypeId) (i : TypeInfo) (z : Value) (size bytes : Nat) (h1 : P.underlying t = some (.slice e)) (h2 : P.info? e = some i) (h3 : i.zero = some z) (h4 : i.size = size) (h5 : i.bytes = bytes) (h6 : z.cells.size = size) (h7 : 0 < size)
    (B : Nat) (v : Value) (n : Nat) (xs : List Value) (hrow : RowQ w B e size v n xs) (hB : B ≤ w.heap.size)
    (ad : Addr) (m c : Nat) (ys : List Value) (hl : ys.length = m * size) (hc : ∀ j u, ys[j]? = some u → w.cell? (ad.add j) = some u) (h1c : ∀ u ∈ ys, u.oneCell' = true) (b1 : n + m ≤ maxLen) (b2 : (n + m) * bytes ≤ 140737488355328) :
    ∃ v' w', (Builtin.append_ #[t, t] ty #[v, .slice (some ad) m c]).run P w = .ok v' w' ∧ RowQ w' B e size v' (n + m) (xs ++ ys) ∧ Only B e w w' := by
  obtain ⟨hl0, hr⟩ := hrow
  have grow : ∀ (A : Option Addr) (cap : Nat), v = .slice A n cap → (A = none → n = 0 ∧ cap = 0) → (∀ b, A = some b → ∀ j u, xs[j]? = some u → w.cell? (b.add j) = some u) → cap < n + m → ∃ v' w', (Builtin.append_ #[t, t] ty #[v, .slice (some ad) m c]).run P w = .ok v' w' ∧ RowQ w' B e size v' (n + m) (xs ++ ys) ∧ Only B e w w' := by
    intro A cap hv hnone hx hfull
    subst hv
    cases A with
    | some b =>
      obtain ⟨v', w', hrun, r1, r2⟩ := run_append_arg_grows (P := P) w t ty e i z size bytes h1 h2 h3 h4 h5 h6 h7 b n cap xs hl0 (hx b rfl) ad m c ys hl hc hfull b1 b2
      exact ⟨v', w', hrun, (RowQ.own r1 (by omega)).base hB, Only.of_grown r2⟩
    | none =>
      obtain ⟨rfl, rfl⟩ := hnone rfl
      have h0 : xs = [] := List.eq_nil_of_length_eq_zero (by omega)
      subst h0
      obtain ⟨v', w', hrun, r1, r2, _⟩ := run_append_own (P := P) w w.heap.size t ty e i z size bytes h1 h2 h3 h4 h5 h6 h7 (.slice none 0 0) 0 [] (World.ownsRow_nil w _ e size) ad m c ys hl hc h1c b1 b2 (Nat.le_refl _)
      exact ⟨v', w', hrun, (RowQ.own r1 (by omega)).base hB, Only.of_grown r2⟩
  rcases hr with ⟨rfl, A, rfl⟩ | ⟨g, off, cap, cur, rfl, q0, q1, q2, q3, q4, q5⟩
  · rcases Nat.eq_zero_or_pos m with rfl | hm
    · have h0 : xs = [] := List.eq_nil_of_length_eq_zero (by omega)
      have h0' : ys = [] := List.eq_nil_of_length_eq_zero (by omega)
      subst h0 h0'
      refine ⟨.slice A 0 0, w, ?_, ⟨by simp, Or.inl ⟨rfl, _, rfl⟩⟩, ⟨rfl, rfl, rfl, Nat.le_refl _, fun _ _ => Or.inl rfl⟩⟩
      have hfc := run_firstCells_some (P := P) w i.size 0 ad 0 c [] (by simp) (by simp)
      cases A with
      | none => simp [Builtin.append_, run_underlying h1, sizeOf, typeInfo, h2, Builtin.lenOf, hfc, storeCells]
      | some b => simp [Builtin.append_, run_underlying h1, sizeOf, typeInfo, h2, Builtin.lenOf, hfc, storeCells]
    · exact grow A 0 rfl (fun _ => ⟨rfl, rfl⟩) (fun b _ j u hj => by rw [List.eq_nil_of_length_eq_zero (by omega : xs.length = 0)] at hj; simp at hj) (by omega)
  · by_cases hroom : n + m ≤ cap
    · have hle : n * size + m * size ≤ cap * size := by rw [← Nat.add_mul]; exact Nat.mul_le_mul_right _ hroom
      have hrun := run_append_room_cells (P := P) w t ty e i h1 h2 g off n cap ad m c ys (by rw [h4]; exact hl) hc h1c hroom (fun j hj => by
        have hlt : off + n * i.size + j < cur.size := by rw [h4]; omega
        simp [World.cell?, q2, hlt]) (fun j hj => by simp [World.frozen?, q2])
      rw [h4] at hrun
      refine ⟨_, _, hrun, ?_, Only.set q1 q2 _ _⟩
      refine ⟨by rw [List.length_append, hl0, hl, Nat.add_mul], Or.inr ⟨g, off, cap, _, rfl, q0, q1, blk_setCells _ _ _ _ q2, hroom, by rw [size_setAll]; exact q4, fun j u hj => ?_⟩⟩
      rw [get_setAll _ _ _ _ (by omega)]
      by_cases hlt : j < n * size
      · rw [if_neg (by omega)]
        rw [List.getElem?_append_left (by omega)] at hj
        exact q5 j u hj
      · rw [List.getElem?_append_right (by omega), hl0] at hj
        have := (List.getElem?_eq_some_iff.1 hj).1
        rw [if_pos (by omega), show off + j - (off + n * size) = j - n * size by omega]
        exact hj
    · exact grow _ cap rfl (fun e => by cases e) (fun b hb j u hj => by cases hb; rw [Addr.add_lit]; simp only [World.cell?, q2]; exact q5 j u hj) (by omega)
theorem app_at {o : Oper} {a : Act} {K : Act → World → Prop} {Q : Exit → Act → World → Prop} (s x : Operand) (t : TypeId) (hop : o.op = Op.call { callee := Callee.builtin Builtin.append, args := #[s, x], argTypes := #[t, t] })
    {v1 v2 v' : Value} {w' : World} (hs : a.eval s = v1) (hx : a.eval x = v2) (hrun : (Builtin.append_ #[t, t] o.type #[v1, v2]).run P w = .ok v' w') (h : K (a.put o.dst v') w') : o.wp P a w K Q := by
  unfold Oper.wp
  simp [execOp, hop, resolve, invoke, builtin, hs, hx, hrun, Result.andThen]
  exact h
theorem app_list {ops : Array Oper} {rest : List Oper} {o : Oper} {a : Act} {Q : Exit → Act → World → Prop} (hg : o.guard = none) (s x : Operand) (t : TypeId) (hop : o.op = Op.call { callee := Callee.builtin Builtin.append, args := #[s, x], argTypes := #[t, t] })
    {v1 v2 v' : Value} {w' : World} (hs : a.eval s = v1) (hx : a.eval x = v2) (hrun : (Builtin.append_ #[t, t] o.type #[v1, v2]).run P w = .ok v' w') (h : wpList P ops Q rest (a.put o.dst v') w') : wpList P ops Q (o :: rest) a w :=
  wpList_plain hg fun K hK' => app_at w s x t hop hs hx hrun (hK' _ _ h)
end
theorem Only.below {B : Nat} {e : TypeId} {w w' : World} (h : Only B e w w') (hB : B ≤ w.heap.size) : Below B w w' :=
  ⟨h.os, h.tape, h.output, h.size, fun i hi => h.old (Nat.lt_of_lt_of_le hi hB) hi⟩
theorem grown_below {w w' : World} (h : w.grownBy w' none) : Below w.heap.size w w' := ⟨h.os, h.tape, h.output, h.size, fun i hi => h.block i hi (by simp)⟩
theorem info_parts {e : TypeId} {z : Value} {n b : Nat} (h : (Try.prog.info? e).map (fun i => (i.zero, i.size, i.bytes)) = some (some z, n, b)) : ∃ i, Try.prog.info? e = some i ∧ i.zero = some z ∧ i.size = n ∧ i.bytes = b := by
  cases hi : Try.prog.info? e with
  | none => rw [hi] at h; cases h
  | some i =>
    rw [hi] at h
    simp only [Option.map_some, Option.some.injEq, Prod.mk.injEq] at h
    exact ⟨i, rfl, h.1, h.2.1, h.2.2⟩
theorem cells_new (W : World) (cs : Array Value) (t : TypeId) (j : Nat) (u : Value) (h : cs.toList[j]? = some u) : (W.alloc (.cells cs t)).cell? (Addr.add ⟨W.heap.size, 0, none⟩ j) = some u := by
  have e : cs[j]? = some u := by rw [← Array.getElem?_toList]; exact h
  have e2 : (Addr.add ⟨W.heap.size, 0, none⟩ j) = ⟨W.heap.size, j, none⟩ := by rw [Addr.add_mid, Nat.zero_add]
  rw [e2]
  simp only [World.cell?]
  rw [show (W.alloc (.cells cs t)).heap[W.heap.size]? = some (.cells cs t (0, 0)) from World.alloc_heap_new _ _]
  exact e
theorem w64_nat {r : Nat} (h : r < 1000000) : wrap64 ((r : Int) + 1) = (r : Int) + 1 := by unfold wrap64; omega
theorem meas_nat {n i : Nat} (h : i < n) : n - ((i : Int) + 1).toNat < n - ((i : Int)).toNat := by omega
section
variable {rb : Nat} {w0 w w' : World}
theorem Far.setCells' {b : Nat} {w0 : World} (hn : w0.heap.size ≤ b) (h : Far rb rb w0 w) (o : Nat) (vs : List Value) : Far rb rb w0 (w.setCells b o vs) := by
  obtain ⟨e1, e2, e3, e4⟩ := os_setCells (g := b) vs o w
  exact ⟨e1.trans h.os, e2.trans h.tape, e3.trans h.output, by rw [e4]; exact h.size, fun i hi h1 h2 => (far_setCells (by omega) vs o w).trans (h.block i hi h1 h2)⟩
end
end Go.Proofs.Ythjppjcmapgkpaa.QAg
