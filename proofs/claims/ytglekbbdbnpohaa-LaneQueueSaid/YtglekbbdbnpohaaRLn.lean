/- Lane: rows of slots; copy, clear. -/
import Derived.Test.YtglekbbdbnpohaaYLn
import Derived.Laws.CopyOwn
import Derived.Laws.MakeOwn
namespace Go.Proofs.Ytglekbbdbnpohaa.QLn
open Go.RowKit Go.ChangeMaps Go.MapKept Go.Proofs.YtglekbbdbnpohaaW.PrintWords Go.Proofs.YtglekbbdbnpohaaW.PrintLast Go.Proofs.YtglekbbdbnpohaaW.PrintMore
set_option linter.unusedVariables false
set_option linter.unusedSimpArgs false
def fS (l : List (Int × Int)) : List Value := l.flatMap (fun p => [.int .i64 p.1, .int .u64 p.2])
theorem fS_len : ∀ l : List (Int × Int), (fS l).length = l.length * 2
  | [] => rfl
  | x :: l => by
    have := fS_len l
    unfold fS at *
    rw [List.flatMap_cons, List.length_append, this]
    simp; omega
theorem fS_append (a b : List (Int × Int)) : fS (a ++ b) = fS a ++ fS b := by unfold fS; rw [List.flatMap_append]
theorem fS_one (l : List (Int × Int)) : ∀ v ∈ fS l, v.oneCell' = true := by
  intro v hv
  unfold fS at hv
  obtain ⟨p, _, hp⟩ := List.mem_flatMap.1 hv
  simp at hp
  rcases hp with rfl | rfl <;> rfl
/-- A row of slots, of which the first are these. -/
def RowS (w : World) (g N : Nat) (l : List (Int × Int)) : Prop := ∃ cur, w.heap[g]? = some (.cells cur 36 (0, 0)) ∧ cur.size = N * 2 ∧ l.length ≤ N ∧ cur.toList.take (l.length * 2) = fS l
theorem RowS.of {w w' : World} {g N : Nat} {l : List (Int × Int)} (h : RowS w g N l) (e : w'.heap[g]? = w.heap[g]?) : RowS w' g N l := by
  obtain ⟨cur, h1, r⟩ := h
  exact ⟨cur, e.trans h1, r⟩
theorem RowS.lt {w : World} {g N : Nat} {l : List (Int × Int)} (h : RowS w g N l) : g < w.heap.size := by
  obtain ⟨cur, h1, r⟩ := h
  exact (Array.getElem?_eq_some_iff.1 h1).1
theorem RowS.below {w w' : World} {g N : Nat} {l : List (Int × Int)} (h : RowS w g N l) (k : Below w.heap.size w w') : RowS w' g N l := h.of (k.block _ h.lt)
theorem RowS.far {w w' : World} {b m g N : Nat} {l : List (Int × Int)} (h : RowS w g N l) (k : Far b m w w') (h1 : g ≠ b) (h2 : g ≠ m) : RowS w' g N l := h.of (k.block _ h.lt h1 h2)
theorem RowS.start (w : World) (c : Array Value) (N : Nat) (hc : c.size = N * 2) : RowS (w.alloc (.cells c 36)) w.heap.size N [] := ⟨c, World.alloc_heap_new _ _, hc, Nat.zero_le _, by simp [fS]⟩
theorem RowS.cell {w : World} {g N : Nat} {l : List (Int × Int)} (h : RowS w g N l) (j : Nat) (v : Value) (hj : (fS l)[j]? = some v) : w.cell? ⟨g, j, none⟩ = some v := by
  obtain ⟨cur, h1, h2, h3, h4⟩ := h
  have hlt := (List.getElem?_eq_some_iff.1 hj).1
  rw [fS_len] at hlt
  rw [← h4, List.getElem?_take, if_pos hlt, Array.getElem?_toList] at hj
  simp only [World.cell?, h1]
  exact hj
theorem RowS.there {w : World} {g N : Nat} {l : List (Int × Int)} (h : RowS w g N l) (o n : Nat) (hn : o + n ≤ N * 2) : w.there g o n := by
  obtain ⟨cur, h1, h2, h3, h4⟩ := h
  exact there_of_block h1 o n (by omega)
theorem RowS.push {w : World} {g N : Nat} {l : List (Int × Int)} (h : RowS w g N l) (l2 : List (Int × Int)) (hn : l.length + l2.length ≤ N) : RowS (w.setCells g (l.length * 2) (fS l2)) g N (l ++ l2) := by
  obtain ⟨cur, h1, h2, h3, h4⟩ := h
  refine ⟨_, blk_setCells (fS l2) (l.length * 2) cur w h1, by rw [size_setAll, h2], by rw [List.length_append]; exact hn, ?_⟩
  apply List.ext_getElem?
  intro j
  rw [List.getElem?_take, fS_append, List.length_append]
  have hfl := fS_len l
  have hfl2 := fS_len l2
  by_cases h5 : j < (l.length + l2.length) * 2
  · rw [if_pos h5, Array.getElem?_toList, get_setAll (fS l2) cur (l.length * 2) j (by rw [hfl2]; omega)]
    by_cases h6 : j < l.length * 2
    · rw [if_neg (by omega), List.getElem?_append_left (by omega), ← h4, List.getElem?_take, if_pos h6, Array.getElem?_toList]
    · rw [if_pos (by omega), List.getElem?_append_right (by omega), hfl]
  · rw [if_neg h5, List.getElem?_eq_none (by rw [List.length_append]; omega)]
theorem RowS.other {w : World} {g g' N o : Nat} {l : List (Int × Int)} (h : RowS w g N l) (vs : List Value) (hne : g ≠ g') : RowS (w.setCells g' o vs) g N l := h.of (far_setCells hne vs o w)
theorem info36 : (Try.prog.info? 36).map (·.size) = some 2 := by kernel_rfl
theorem run_copy2 (w : World) (ty : TypeId) (g o dLen dCap : Nat) (ad : Addr) (sLen sCap : Nat) (cs : List Value) (hn : cs.length = Nat.min sLen dLen * 2)
    (hsrc : ∀ j v, cs[j]? = some v → w.cell? (ad.add j) = some v) (hd : w.there g o cs.length) (h1 : ∀ v ∈ cs, v.oneCell' = true) :
    (Builtin.copy_ #[46, 46] ty #[.slice (some ⟨g, o, none⟩) dLen dCap, .slice (some ad) sLen sCap]).run Try.prog w = .ok (goInt (Nat.min sLen dLen)) (w.setCells g o cs) := by
  have hl := run_loadCells_list (P := Try.prog) w ad cs hsrc
  have hst := run_storeCells_cells (P := Try.prog) g o cs 0 w (fun j hj => by have := (hd j hj).1; simpa using this) (fun j hj => by have := (hd j hj).2; simpa using this) h1
  have hs := info36
  cases hq : Try.prog.info? 36 with
  | none => simp [hq] at hs
  | some i =>
    have hi : i.size = 2 := by simpa [hq] using hs
    simp [Builtin.copy_, run_underlying Try.underlying46, Builtin.lenOf, Builtin.firstCells, sizeOf, typeInfo, hq, hi, ← hn, hl, hst]
theorem run_copy2_none (w : World) (ty : TypeId) (dp sp : Option Addr) (dLen dCap sLen sCap : Nat) (hn : Nat.min sLen dLen = 0) :
    (Builtin.copy_ #[46, 46] ty #[.slice dp dLen dCap, .slice sp sLen sCap]).run Try.prog w = .ok (goInt 0) w := by
  have hs := info36
  cases hq : Try.prog.info? 36 with
  | none => simp [hq] at hs
  | some i =>
    have hl : ∀ (x : Addr), (loadCells x 0).run Try.prog w = .ok #[] w := fun x => by simpa using run_loadCells_list (P := Try.prog) w x [] (by simp)
    cases dp <;> cases sp <;> simp [Builtin.copy_, run_underlying Try.underlying46, Builtin.lenOf, Builtin.firstCells, sizeOf, typeInfo, hq, hn, storeCells, hl]
section
variable {ops : Array Oper} {rest : List Oper} {op : Oper} {a : Act} {w : World} {Q : Exit → Act → World → Prop}
theorem copy_rows (hgd : op.guard = none) (d s : Operand) (ho : op.op = .call { callee := .builtin .copy, args := #[d, s], argTypes := #[46, 46] })
    (dp sp : Option Addr) (dLen dCap sLen sCap n : Nat) (hd : a.eval d = .slice dp dLen dCap) (hs : a.eval s = .slice sp sLen sCap) (hm : Nat.min sLen dLen = n)
    (g o : Nat) (cs : List Value) (hn : cs.length = n * 2)
    (hpos : 0 < cs.length → dp = some ⟨g, o, none⟩ ∧ ∃ ad, sp = some ad ∧ ∀ j v, cs[j]? = some v → w.cell? (ad.add j) = some v) (ht : w.there g o cs.length) (h1 : ∀ v ∈ cs, v.oneCell' = true)
    (h : ∀ w', w' = w.setCells g o cs → wpList Try.prog ops Q rest (a.put op.dst (.int .i64 (n : Int))) w') : wpList Try.prog ops Q (op :: rest) a w := by
  subst hm
  refine wpList_plain hgd fun K hK => ?_
  by_cases h0 : cs.length = 0
  · have hcs : cs = [] := List.eq_nil_of_length_eq_zero h0
    have hm : Nat.min sLen dLen = 0 := by omega
    have hrun := run_copy2_none w op.type dp sp dLen dCap sLen sCap hm
    have h2 := h w (by rw [hcs]; rfl)
    rw [hm] at h2
    unfold Oper.wp
    simp [execOp, ho, resolve, invoke, builtin, hd, hs, hrun, Result.andThen]
    exact hK _ _ h2
  · obtain ⟨rfl, ad, rfl, hsrc⟩ := hpos (by omega)
    have hrun := run_copy2 w op.type g o dLen dCap ad sLen sCap cs hn hsrc ht h1
    unfold Oper.wp
    simp [execOp, ho, resolve, invoke, builtin, hd, hs, hrun, Result.andThen]
    exact hK _ _ (h _ rfl)
theorem clear_own (hgd : op.guard = none) (m : Operand) (ho : op.op = .call { callee := .builtin .clear, args := #[m], argTypes := #[65] })
    (mb n : Nat) (D : DataW Past) (hm : a.eval m = .map (some mb)) (hown : w.ownsMap Try.prog 22 Rp mb n D)
    (h : ∀ w', w'.ownsMap Try.prog 22 Rp mb 0 (.map []) → w.grownBy w' (some mb) → wpList Try.prog ops Q rest (a.put op.dst (.tuple #[])) w') : wpList Try.prog ops Q (op :: rest) a w := by
  refine wpList_plain hgd fun K hK => ?_
  obtain ⟨es, clock, hb, F, hs, rfl⟩ := hown
  have hrun : (Builtin.clear_ #[65] op.type #[.map (some mb)]).run Try.prog w = .ok (.tuple #[]) (setBlock w mb (.map #[] clock)) := by
    simp [Builtin.clear_, run_underlying Try.underlying65, MapKept.run_getObj_map hb, run_setObj_map (.map #[] clock) hb, setBlock, Result.andThen]
  unfold Oper.wp
  simp [execOp, ho, resolve, invoke, builtin, hm, hrun, Result.andThen]
  refine hK _ _ (h _ ?_ ?_)
  · exact ⟨#[], clock, heap_setBlock_same hb _, ⟨by simp, stamped_empty clock, by simp⟩, Nat.le_refl _, rfl⟩
  · exact ⟨rfl, rfl, rfl, by simp [setBlock], fun i _ hi => heap_setBlock_other hb _ (fun e => hi (by rw [e]))⟩
end
end Go.Proofs.Ytglekbbdbnpohaa.QLn
