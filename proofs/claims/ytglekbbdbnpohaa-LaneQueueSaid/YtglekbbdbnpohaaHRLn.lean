/- Lane: rows of the law's own that begin anywhere in their block; appending to them, cutting their first off, storing into them. -/
import Derived.Test.YtglekbbdbnpohaaSLn
import Derived.ArgAppend
namespace Go.Proofs.Ytglekbbdbnpohaa.QLn
open Go.RowKit Go.Proofs.YtglekbbdbnpohaaW.PrintWords Go.Proofs.YtglekbbdbnpohaaW.PrintLast Go.Proofs.YtglekbbdbnpohaaW.PrintMore
set_option linter.unusedVariables false
set_option linter.unusedSimpArgs false
/-- A row of n elements, wherever it begins in its block: the block lies from B on. -/
def RowQ (w : World) (B : Nat) (e : TypeId) (sz : Nat) (v : Value) (n : Nat) (xs : List Value) : Prop :=
  xs.length = n * sz ∧ ((n = 0 ∧ ∃ A, v = .slice A 0 0) ∨
    ∃ g o cap cur, v = .slice (some ⟨g, o, none⟩) n cap ∧ 0 < cap ∧ B ≤ g ∧ w.heap[g]? = some (.cells cur e (0, 0)) ∧ n ≤ cap ∧ o + cap * sz ≤ cur.size ∧ ∀ j u, xs[j]? = some u → cur[o + j]? = some u)
/-- Nothing has turned but blocks of this type from B on. -/
structure Only (B : Nat) (e : TypeId) (w w' : World) : Prop where
  os : w'.os = w.os
  tape : w'.tape = w.tape
  output : w'.output = w.output
  size : w.heap.size ≤ w'.heap.size
  block : ∀ i, i < w.heap.size → w'.heap[i]? = w.heap[i]? ∨ (B ≤ i ∧ ∃ cur, w.heap[i]? = some (.cells cur e (0, 0)))
theorem Only.of_grown {B : Nat} {e : TypeId} {w w' : World} (h : w.grownBy w' none) : Only B e w w' :=
  ⟨h.os, h.tape, h.output, h.size, fun i hi => Or.inl (h.block i hi (by simp))⟩
theorem Only.old {B : Nat} {e : TypeId} {w w' : World} (h : Only B e w w') {i : Nat} (hi : i < w.heap.size) (hB : i < B) : w'.heap[i]? = w.heap[i]? := by
  rcases h.block i hi with h1 | ⟨h1, _⟩
  · exact h1
  · omega
theorem os_setCells {g : Nat} : ∀ (vs : List Value) (o : Nat) (w : World), (w.setCells g o vs).os = w.os ∧ (w.setCells g o vs).tape = w.tape ∧ (w.setCells g o vs).output = w.output ∧ (w.setCells g o vs).heap.size = w.heap.size
  | [], _, _ => ⟨rfl, rfl, rfl, rfl⟩
  | v :: vs, o, w => by
    obtain ⟨h1, h2, h3, h4⟩ := os_setCells (g := g) vs (o + 1) (w.setCell ⟨g, o, none⟩ v)
    exact ⟨h1, h2, h3, h4.trans (by simp [World.setCell])⟩
theorem Only.set {B g : Nat} {e : TypeId} {w : World} {cur : Array Value} (hB : B ≤ g) (hw : w.heap[g]? = some (.cells cur e (0, 0))) (o : Nat) (vs : List Value) : Only B e w (w.setCells g o vs) := by
  obtain ⟨h1, h2, h3, h4⟩ := os_setCells (g := g) vs o w
  refine ⟨h1, h2, h3, by rw [h4]; exact Nat.le_refl _, fun i hi => ?_⟩
  by_cases hg : i = g
  · subst hg; exact Or.inr ⟨hB, _, hw⟩
  · exact Or.inl (far_setCells hg vs o w)
section
variable {w w' : World} {B : Nat} {e : TypeId} {sz : Nat} {v : Value} {n : Nat} {xs : List Value}
theorem RowQ.nil (w : World) (B : Nat) (e : TypeId) (sz : Nat) : RowQ w B e sz (.slice none 0 0) 0 [] := ⟨by simp, Or.inl ⟨rfl, _, rfl⟩⟩
theorem RowQ.own (h : w.ownsRow B e sz v n xs) (hn : 0 < n) : RowQ w B e sz v n xs := by
  obtain ⟨h1, h2⟩ := h
  rcases h2 with ⟨_, h2⟩ | ⟨g, cap, cur, rfl, q1, q2, q3, q4, q5, q6⟩
  · omega
  · refine ⟨h1, Or.inr ⟨g, 0, cap, cur, rfl, by omega, q1, q2, q3, by omega, fun j u hj => ?_⟩⟩
    rw [← q6] at hj
    rw [Nat.zero_add, ← Array.getElem?_toList]
    rw [List.getElem?_take] at hj
    split at hj
    · exact hj
    · cases hj
theorem RowQ.base {B' : Nat} (h : RowQ w B e sz v n xs) (hB : B' ≤ B) : RowQ w B' e sz v n xs := by
  obtain ⟨h1, h2⟩ := h
  refine ⟨h1, ?_⟩
  rcases h2 with h2 | ⟨g, o, cap, cur, rfl, q0, q1, q2⟩
  · exact Or.inl h2
  · exact Or.inr ⟨g, o, cap, cur, rfl, q0, Nat.le_trans hB q1, q2⟩
theorem RowQ.of (h : RowQ w B e sz v n xs) (hk : ∀ g cur, B ≤ g → w.heap[g]? = some (.cells cur e (0, 0)) → w'.heap[g]? = w.heap[g]?) : RowQ w' B e sz v n xs := by
  obtain ⟨h1, h2⟩ := h
  refine ⟨h1, ?_⟩
  rcases h2 with h2 | ⟨g, o, cap, cur, rfl, q0, q1, q2, q3⟩
  · exact Or.inl h2
  · exact Or.inr ⟨g, o, cap, cur, rfl, q0, q1, (hk g cur q1 q2).trans q2, q3⟩
theorem RowQ.only {e' : TypeId} (h : RowQ w B e sz v n xs) (ho : Only B e' w w') (hne : e ≠ e') : RowQ w' B e sz v n xs := by
  refine h.of (fun g cur hg hw => ?_)
  have hlt : g < w.heap.size := (Array.getElem?_eq_some_iff.1 hw).1
  rcases ho.block g hlt with h1 | ⟨_, c, h1⟩
  · exact h1
  · rw [hw] at h1
    injection h1 with h1
    injection h1 with _ h1
    exact absurd h1 hne
theorem RowQ.below (h : RowQ w B e sz v n xs) (j : Below w.heap.size w w') : RowQ w' B e sz v n xs :=
  h.of (fun g cur _ hw => j.block g (Array.getElem?_eq_some_iff.1 hw).1)
theorem RowQ.form (h : RowQ w B e sz v n xs) : ∃ A c, v = .slice A n c ∧ n ≤ c := by
  obtain ⟨h1, h2⟩ := h
  rcases h2 with ⟨rfl, A, rfl⟩ | ⟨g, o, cap, cur, rfl, q0, q1, q2, q3, _⟩
  · exact ⟨_, _, rfl, Nat.le_refl _⟩
  · exact ⟨_, _, rfl, q3⟩
/-- A row that is not empty: where it lies. -/
theorem RowQ.lies (h : RowQ w B e sz v n xs) (hn : 0 < n) : ∃ g o cap cur, v = .slice (some ⟨g, o, none⟩) n cap ∧ B ≤ g ∧ w.heap[g]? = some (.cells cur e (0, 0)) ∧ n ≤ cap ∧ o + cap * sz ≤ cur.size ∧ ∀ j u, xs[j]? = some u → cur[o + j]? = some u := by
  obtain ⟨h1, h2⟩ := h
  rcases h2 with ⟨rfl, _⟩ | ⟨g, o, cap, cur, rfl, q0, q1, q2, q3, q4, q5⟩
  · omega
  · exact ⟨g, o, cap, cur, rfl, q1, q2, q3, q4, q5⟩
theorem RowQ.tail {g o cap : Nat} {x : List Value} (h : RowQ w B e sz (.slice (some ⟨g, o, none⟩) (n + 1) cap) (n + 1) (x ++ xs)) (hx : x.length = sz) :
    RowQ w B e sz (.slice (if cap = 1 then some ⟨g, o, none⟩ else some ⟨g, o + sz, none⟩) n (cap - 1)) n xs := by
  obtain ⟨h1, h2⟩ := h
  have hlen : xs.length = n * sz := by rw [List.length_append, hx, Nat.add_mul] at h1; omega
  refine ⟨hlen, ?_⟩
  rcases h2 with ⟨h2, _⟩ | ⟨g', o', cap', cur, hv, q0, q1, q2, q3, q4, q5⟩
  · omega
  · injection hv with e1 e2 e3
    injection e1 with e1
    injection e1 with e4 e5
    subst e3 e4 e5
    by_cases hc : cap = 1
    · have hn0 : n = 0 := by omega
      subst hn0
      rw [if_pos hc, hc]
      exact Or.inl ⟨rfl, _, rfl⟩
    · rw [if_neg hc]
      refine Or.inr ⟨g, o + sz, cap - 1, cur, rfl, by omega, q1, q2, by omega, ?_, fun j u hj => ?_⟩
      · have : cap * sz = (cap - 1) * sz + sz := by rw [← Nat.succ_mul]; congr 1; omega
        omega
      · rw [Nat.add_assoc]
        refine q5 (sz + j) u ?_
        rw [List.getElem?_append_right (by omega), hx, Nat.add_sub_cancel_left]
        exact hj
theorem RowQ.set {g o cap : Nat} {cur : Array Value} (h : xs.length = n * sz) (hc : 0 < cap) (hB : B ≤ g) (hw : w.heap[g]? = some (.cells cur e (0, 0))) (hn : n ≤ cap) (hs : o + cap * sz ≤ cur.size)
    (hq : ∀ j u, xs[j]? = some u → cur[o + j]? = some u) (i : Nat) (hi : i < n) (vs : List Value) (hv : vs.length = sz) (ys : List Value) (hy : ys.length = xs.length)
    (h1 : ∀ j, j < sz → ys[i * sz + j]? = vs[j]?) (h2 : ∀ j, j < i * sz ∨ i * sz + sz ≤ j → ys[j]? = xs[j]?) :
    RowQ (w.setCells g (o + i * sz) vs) B e sz (.slice (some ⟨g, o, none⟩) n cap) n ys := by
  have hb := blk_setCells vs (o + i * sz) cur w hw
  have hle : i * sz + sz ≤ cap * sz := by rw [← Nat.succ_mul]; exact Nat.mul_le_mul_right _ (by omega)
  refine ⟨by rw [hy, h], Or.inr ⟨g, o, cap, _, rfl, hc, hB, hb, hn, by rw [size_setAll]; exact hs, fun j u hj => ?_⟩⟩
  rw [get_setAll _ _ _ _ (by rw [hv]; omega), hv]
  by_cases hin : i * sz ≤ j ∧ j < i * sz + sz
  · rw [if_pos (by omega)]
    have := h1 (j - i * sz) (by omega)
    rw [show i * sz + (j - i * sz) = j by omega] at this
    rw [show o + j - (o + i * sz) = j - i * sz by omega, ← this, hj]
  · rw [if_neg (by omega)]
    exact hq j u (by rw [← h2 j (by omega)]; exact hj)
end
/-- Appending one element, whatever the row is. -/
theorem wpList_append_Q {P : Program} (w : World) {ops : Array Oper} {rest : List Oper} {o : Oper} {a : Act} {Q : Exit → Act → World → Prop}
    (hg : o.guard = none) (s x : Operand) (t : TypeId) (hop : o.op = Op.call { callee := Callee.builtin Builtin.append, args := #[s, x], argTypes := #[t, t] })
    (e : TypeId) (i : TypeInfo) (z : Value) (size bytes : Nat) (h1 : P.underlying t = some (.slice e)) (h2 : P.info? e = some i) (h3 : i.zero = some z) (h4 : i.size = size) (h5 : i.bytes = bytes) (h6 : z.cells.size = size) (h7 : 0 < size)
    (B : Nat) (v : Value) (n : Nat) (xs : List Value) (hs : a.eval s = v) (hrow : RowQ w B e size v n xs) (hB : B ≤ w.heap.size)
    (ad : Addr) (c : Nat) (news : List Value) (hx : a.eval x = .slice (some ad) 1 c) (hn : news.length = size) (hc : ∀ j u, news[j]? = some u → w.cell? (ad.add j) = some u) (h1c : ∀ u ∈ news, u.oneCell' = true)
    (b1 : n + 1 ≤ maxLen) (b2 : (n + 1) * bytes ≤ 140737488355328)
    (hK : ∀ v' w', RowQ w' B e size v' (n + 1) (xs ++ news) → Only B e w w' → wpList P ops Q rest (a.put o.dst v') w') :
    wpList P ops Q (o :: rest) a w := by
  obtain ⟨hl, hr⟩ := hrow
  have hn1 : news.length = 1 * size := by rw [hn, Nat.one_mul]
  rcases hr with ⟨rfl, A, rfl⟩ | ⟨g, off, cap, cur, rfl, q0, q1, q2, q3, q4, q5⟩
  · have hx0 : xs = [] := List.eq_nil_of_length_eq_zero (by omega)
    subst hx0
    refine wpList_append_grows w hg s x t hop e i z size bytes h1 h2 h3 h4 h5 h6 h7 A 0 0 [] hs (fun _ => ⟨rfl, rfl⟩) hl (fun b hb j u hj => by simp at hj) ad 1 c news hx hn1 hc h1c (by omega) b1 b2 (fun v' w' ho hgr => ?_)
    exact hK v' w' ((RowQ.own ho (by omega)).base hB) (Only.of_grown hgr)
  · refine wpList_append_arg w hg s x t hop e i z size bytes h1 h2 h3 h4 h5 h6 h7 g off n cap xs hs hl (fun j u hj => ?_) ad 1 c news hx hn1 hc h1c (fun hroom j hj => ?_) b1 b2 (fun hroom => ?_) (fun hfull v' w' ho hgr => ?_)
    · simp only [World.cell?, q2]
      exact q5 j u hj
    · have hle : n * size + size ≤ cap * size := by rw [← Nat.succ_mul]; exact Nat.mul_le_mul_right _ hroom
      rw [hn] at hj
      have hlt : off + n * size + j < cur.size := by omega
      constructor
      · simp [World.cell?, q2, hlt]
      · simp [World.frozen?, q2]
    · refine hK _ _ ?_ (Only.set q1 q2 _ _)
      have hle : n * size + size ≤ cap * size := by rw [← Nat.succ_mul]; exact Nat.mul_le_mul_right _ hroom
      refine ⟨by rw [List.length_append, hl, hn, Nat.add_mul, Nat.one_mul], Or.inr ⟨g, off, cap, _, rfl, q0, q1, blk_setCells _ _ _ _ q2, hroom, by rw [size_setAll]; exact q4, fun j u hj => ?_⟩⟩
      rw [get_setAll _ _ _ _ (by omega)]
      by_cases hlt : j < n * size
      · rw [if_neg (by omega)]
        rw [List.getElem?_append_left (by omega)] at hj
        exact q5 j u hj
      · rw [List.getElem?_append_right (by omega), hl] at hj
        have := (List.getElem?_eq_some_iff.1 hj).1
        rw [if_pos (by omega), show off + j - (off + n * size) = j - n * size by omega]
        exact hj
    · exact hK v' w' ((RowQ.own ho (by omega)).base hB) (Only.of_grown hgr)
end Go.Proofs.Ytglekbbdbnpohaa.QLn
