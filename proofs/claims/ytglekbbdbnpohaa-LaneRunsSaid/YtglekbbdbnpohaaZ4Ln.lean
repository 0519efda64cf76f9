/- Lane: HRLn, F2Ln, H2Ln, JRLn joined. -/
import Derived.Test.YtglekbbdbnpohaaSLn
import Derived.ArgAppend
import Derived.Test.YtglekbbdbnpohaaA2Ln
/- Lane: rows of the law's own that begin anywhere in their block; appending to them, cutting their first off, storing into them. -/
namespace Go.Proofs.Ytglekbbdbnpohaa.QLn
open Go.RowKit Go.Proofs.YtglekbbdbnpohaaW.PrintWords Go.Proofs.YtglekbbdbnpohaaW.PrintLast Go.Proofs.YtglekbbdbnpohaaW.PrintMore
set_option linter.unusedVariables false
set_option linter.unusedSimpArgs false
/-- A row of n elements, wherever it begins in its block: the block lies from B on. -/
def RowQ (w : World) (B : Nat) (e : TypeId) (sz : Nat) (v : Value) (n : Nat) (xs : List Value) : Prop :=
  xs.length = n * sz ∧ ((n = 0 ∧ ∃ A, v = .slice A 0 0) ∨
    ∃ g o cap cur, v = .slice (some ⟨g, o, none⟩) n cap ∧ 0 < cap ∧ B ≤ g ∧ w.heap[g]? = some (.cells cur e (0, 0)) ∧ n ≤ cap ∧ o + cap * sz ≤ cur.size ∧ ∀ j u, xs[j]? = some u → cur[o + j]? = some u)
/-- Nothing has turned but blocks of this type from B on. -/
structure Only (B : Nat) (e : TypeId) (w w' : World) : Prop where
  os : w'.os = w.os
  tape : w'.tape = w.tape
  output : w'.output = w.output
  size : w.heap.size ≤ w'.heap.size
  block : ∀ i, i < w.heap.size → w'.heap[i]? = w.heap[i]? ∨ (B ≤ i ∧ ∃ cur, w.heap[i]? = some (.cells cur e (0, 0)))
theorem Only.of_grown {B : Nat} {e : TypeId} {w w' : World} (h : w.grownBy w' none) : Only B e w w' :=
  ⟨h.os, h.tape, h.output, h.size, fun i hi => Or.inl (h.block i hi (by simp))⟩
theorem Only.old {B : Nat} {e : TypeId} {w w' : World} (h : Only B e w w') {i : Nat} (hi : i < w.heap.size) (hB : i < B) : w'.heap[i]? = w.heap[i]? := by
  rcases h.block i hi with h1 | ⟨h1, _⟩
  · exact h1
  · omega
theorem os_setCells {g : Nat} : ∀ (vs : List Value) (o : Nat) (w : World), (w.setCells g o vs).os = w.os ∧ (w.setCells g o vs).tape = w.tape ∧ (w.setCells g o vs).output = w.output ∧ (w.setCells g o vs).heap.size = w.heap.size
  | [], _, _ => ⟨rfl, rfl, rfl, rfl⟩
  | v :: vs, o, w => by
    obtain ⟨h1, h2, h3, h4⟩ := os_setCells (g := g) vs (o + 1) (w.setCell ⟨g, o, none⟩ v)
    exact ⟨h1, h2, h3, h4.trans (by simp [World.setCell])⟩
theorem Only.set {B g : Nat} {e : TypeId} {w : World} {cur : Array Value} (hB : B ≤ g) (hw : w.heap[g]? = some (.cells cur e (0, 0))) (o : Nat) (vs : List Value) : Only B e w (w.setCells g o vs) := by
  obtain ⟨h1, h2, h3, h4⟩ := os_setCells (g := g) vs o w
  refine ⟨h1, h2, h3, by rw [h4]; exact Nat.le_refl _, fun i hi => ?_⟩
  by_cases hg : i = g
  · subst hg; exact Or.inr ⟨hB, _, hw⟩
  · exact Or.inl (far_setCells hg vs o w)
section
variable {w w' : World} {B : Nat} {e : TypeId} {sz : Nat} {v : Value} {n : Nat} {xs : List Value}
theorem RowQ.nil (w : World) (B : Nat) (e : TypeId) (sz : Nat) : RowQ w B e sz (.slice none 0 0) 0 [] := ⟨by simp, Or.inl ⟨rfl, _, rfl⟩⟩
theorem RowQ.own (h : w.ownsRow B e sz v n xs) (hn : 0 < n) : RowQ w B e sz v n xs := by
  obtain ⟨h1, h2⟩ := h
  rcases h2 with ⟨_, h2⟩ | ⟨g, cap, cur, rfl, q1, q2, q3, q4, q5, q6⟩
  · omega
  · refine ⟨h1, Or.inr ⟨g, 0, cap, cur, rfl, by omega, q1, q2, q3, by omega, fun j u hj => ?_⟩⟩
    rw [← q6] at hj
    rw [Nat.zero_add, ← Array.getElem?_toList]
    rw [List.getElem?_take] at hj
    split at hj
    · exact hj
    · cases hj
theorem RowQ.base {B' : Nat} (h : RowQ w B e sz v n xs) (hB : B' ≤ B) : RowQ w B' e sz v n xs := by
  obtain ⟨h1, h2⟩ := h
  refine ⟨h1, ?_⟩
  rcases h2 with h2 | ⟨g, o, cap, cur, rfl, q0, q1, q2⟩
  · exact Or.inl h2
  · exact Or.inr ⟨g, o, cap, cur, rfl, q0, Nat.le_trans hB q1, q2⟩
theorem RowQ.of (h : RowQ w B e sz v n xs) (hk : ∀ g cur, B ≤ g → w.heap[g]? = some (.cells cur e (0, 0)) → w'.heap[g]? = w.heap[g]?) : RowQ w' B e sz v n xs := by
  obtain ⟨h1, h2⟩ := h
  refine ⟨h1, ?_⟩
  rcases h2 with h2 | ⟨g, o, cap, cur, rfl, q0, q1, q2, q3⟩
  · exact Or.inl h2
  · exact Or.inr ⟨g, o, cap, cur, rfl, q0, q1, (hk g cur q1 q2).trans q2, q3⟩
theorem RowQ.only {e' : TypeId} (h : RowQ w B e sz v n xs) (ho : Only B e' w w') (hne : e ≠ e') : RowQ w' B e sz v n xs := by
  refine h.of (fun g cur hg hw => ?_)
  have hlt : g < w.heap.size := (Array.getElem?_eq_some_iff.1 hw).1
  rcases ho.block g hlt with h1 | ⟨_, c, h1⟩
  · exact h1
  · rw [hw] at h1
    injection h1 with h1
    injection h1 with _ h1
    exact absurd h1 hne
theorem RowQ.below (h : RowQ w B e sz v n xs) (j : Below w.heap.size w w') : RowQ w' B e sz v n xs :=
  h.of (fun g cur _ hw => j.block g (Array.getElem?_eq_some_iff.1 hw).1)
theorem RowQ.form (h : RowQ w B e sz v n xs) : ∃ A c, v = .slice A n c ∧ n ≤ c := by
  obtain ⟨h1, h2⟩ := h
  rcases h2 with ⟨rfl, A, rfl⟩ | ⟨g, o, cap, cur, rfl, q0, q1, q2, q3, _⟩
  · exact ⟨_, _, rfl, Nat.le_refl _⟩
  · exact ⟨_, _, rfl, q3⟩
/-- A row that is not empty: where it lies. -/
theorem RowQ.lies (h : RowQ w B e sz v n xs) (hn : 0 < n) : ∃ g o cap cur, v = .slice (some ⟨g, o, none⟩) n cap ∧ B ≤ g ∧ w.heap[g]? = some (.cells cur e (0, 0)) ∧ n ≤ cap ∧ o + cap * sz ≤ cur.size ∧ ∀ j u, xs[j]? = some u → cur[o + j]? = some u := by
  obtain ⟨h1, h2⟩ := h
  rcases h2 with ⟨rfl, _⟩ | ⟨g, o, cap, cur, rfl, q0, q1, q2, q3, q4, q5⟩
  · omega
  · exact ⟨g, o, cap, cur, rfl, q1, q2, q3, q4, q5⟩
theorem RowQ.tail {g o cap : Nat} {x : List Value} (h : RowQ w B e sz (.slice (some ⟨g, o, none⟩) (n + 1) cap) (n + 1) (x ++ xs)) (hx : x.length = sz) :
    RowQ w B e sz (.slice (if cap = 1 then some ⟨g, o, none⟩ else some ⟨g, o + sz, none⟩) n (cap - 1)) n xs := by
  obtain ⟨h1, h2⟩ := h
  have hlen : xs.length = n * sz := by rw [List.length_append, hx, Nat.add_mul] at h1; omega
  refine ⟨hlen, ?_⟩
  rcases h2 with ⟨h2, _⟩ | ⟨g', o', cap', cur, hv, q0, q1, q2, q3, q4, q5⟩
  · omega
  · injection hv with e1 e2 e3
    injection e1 with e1
    injection e1 with e4 e5
    subst e3 e4 e5
    by_cases hc : cap = 1
    · have hn0 : n = 0 := by omega
      subst hn0
      rw [if_pos hc, hc]
      exact Or.inl ⟨rfl, _, rfl⟩
    · rw [if_neg hc]
      refine Or.inr ⟨g, o + sz, cap - 1, cur, rfl, by omega, q1, q2, by omega, ?_, fun j u hj => ?_⟩
      · have : cap * sz = (cap - 1) * sz + sz := by rw [← Nat.succ_mul]; congr 1; omega
        omega
      · rw [Nat.add_assoc]
        refine q5 (sz + j) u ?_
        rw [List.getElem?_append_right (by omega), hx, Nat.add_sub_cancel_left]
        exact hj
theorem RowQ.set {g o cap : Nat} {cur : Array Value} (h : xs.length = n * sz) (hc : 0 < cap) (hB : B ≤ g) (hw : w.heap[g]? = some (.cells cur e (0, 0))) (hn : n ≤ cap) (hs : o + cap * sz ≤ cur.size)
    (hq : ∀ j u, xs[j]? = some u → cur[o + j]? = some u) (i : Nat) (hi : i < n) (vs : List Value) (hv : vs.length = sz) (ys : List Value) (hy : ys.length = xs.length)
    (h1 : ∀ j, j < sz → ys[i * sz + j]? = vs[j]?) (h2 : ∀ j, j < i * sz ∨ i * sz + sz ≤ j → ys[j]? = xs[j]?) :
    RowQ (w.setCells g (o + i * sz) vs) B e sz (.slice (some ⟨g, o, none⟩) n cap) n ys := by
  have hb := blk_setCells vs (o + i * sz) cur w hw
  have hle : i * sz + sz ≤ cap * sz := by rw [← Nat.succ_mul]; exact Nat.mul_le_mul_right _ (by omega)
  refine ⟨by rw [hy, h], Or.inr ⟨g, o, cap, _, rfl, hc, hB, hb, hn, by rw [size_setAll]; exact hs, fun j u hj => ?_⟩⟩
  rw [get_setAll _ _ _ _ (by rw [hv]; omega), hv]
  by_cases hin : i * sz ≤ j ∧ j < i * sz + sz
  · rw [if_pos (by omega)]
    have := h1 (j - i * sz) (by omega)
    rw [show i * sz + (j - i * sz) = j by omega] at this
    rw [show o + j - (o + i * sz) = j - i * sz by omega, ← this, hj]
  · rw [if_neg (by omega)]
    exact hq j u (by rw [← h2 j (by omega)]; exact hj)
end
/-- Appending one element, whatever the row is. -/
theorem wpList_append_Q {P : Program} (w : World) {ops : Array Oper} {rest : List Oper} {o : Oper} {a : Act} {Q : Exit → Act → World → Prop}
    (hg : o.guard = none) (s x : Operand) (t : TypeId) (hop : o.op = Op.call { callee := Callee.builtin Builtin.append, args := #[s, x], argTypes := #[t, t] })
    (e : TypeId) (i : TypeInfo) (z : Value) (size bytes : Nat) (h1 : P.underlying t = some (.slice e)) (h2 : P.info? e = some i) (h3 : i.zero = some z) (h4 : i.size = size) (h5 : i.bytes = bytes) (h6 : z.cells.size = size) (h7 : 0 < size)
    (B : Nat) (v : Value) (n : Nat) (xs : List Value) (hs : a.eval s = v) (hrow : RowQ w B e size v n xs) (hB : B ≤ w.heap.size)
    (ad : Addr) (c : Nat) (news : List Value) (hx : a.eval x = .slice (some ad) 1 c) (hn : news.length = size) (hc : ∀ j u, news[j]? = some u → w.cell? (ad.add j) = some u) (h1c : ∀ u ∈ news, u.oneCell' = true)
    (b1 : n + 1 ≤ maxLen) (b2 : (n + 1) * bytes ≤ 140737488355328)
    (hK : ∀ v' w', RowQ w' B e size v' (n + 1) (xs ++ news) → Only B e w w' → wpList P ops Q rest (a.put o.dst v') w') :
    wpList P ops Q (o :: rest) a w := by
  obtain ⟨hl, hr⟩ := hrow
  have hn1 : news.length = 1 * size := by rw [hn, Nat.one_mul]
  rcases hr with ⟨rfl, A, rfl⟩ | ⟨g, off, cap, cur, rfl, q0, q1, q2, q3, q4, q5⟩
  · have hx0 : xs = [] := List.eq_nil_of_length_eq_zero (by omega)
    subst hx0
    refine wpList_append_grows w hg s x t hop e i z size bytes h1 h2 h3 h4 h5 h6 h7 A 0 0 [] hs (fun _ => ⟨rfl, rfl⟩) hl (fun b hb j u hj => by simp at hj) ad 1 c news hx hn1 hc h1c (by omega) b1 b2 (fun v' w' ho hgr => ?_)
    exact hK v' w' ((RowQ.own ho (by omega)).base hB) (Only.of_grown hgr)
  · refine wpList_append_arg w hg s x t hop e i z size bytes h1 h2 h3 h4 h5 h6 h7 g off n cap xs hs hl (fun j u hj => ?_) ad 1 c news hx hn1 hc h1c (fun hroom j hj => ?_) b1 b2 (fun hroom => ?_) (fun hfull v' w' ho hgr => ?_)
    · simp only [World.cell?, q2]
      exact q5 j u hj
    · have hle : n * size + size ≤ cap * size := by rw [← Nat.succ_mul]; exact Nat.mul_le_mul_right _ hroom
      rw [hn] at hj
      have hlt : off + n * size + j < cur.size := by omega
      constructor
      · simp [World.cell?, q2, hlt]
      · simp [World.frozen?, q2]
    · refine hK _ _ ?_ (Only.set q1 q2 _ _)
      have hle : n * size + size ≤ cap * size := by rw [← Nat.succ_mul]; exact Nat.mul_le_mul_right _ hroom
      refine ⟨by rw [List.length_append, hl, hn, Nat.add_mul, Nat.one_mul], Or.inr ⟨g, off, cap, _, rfl, q0, q1, blk_setCells _ _ _ _ q2, hroom, by rw [size_setAll]; exact q4, fun j u hj => ?_⟩⟩
      rw [get_setAll _ _ _ _ (by omega)]
      by_cases hlt : j < n * size
      · rw [if_neg (by omega)]
        rw [List.getElem?_append_left (by omega)] at hj
        exact q5 j u hj
      · rw [List.getElem?_append_right (by omega), hl] at hj
        have := (List.getElem?_eq_some_iff.1 hj).1
        rw [if_pos (by omega), show off + j - (off + n * size) = j - n * size by omega]
        exact hj
    · exact hK v' w' ((RowQ.own ho (by omega)).base hB) (Only.of_grown hgr)
end Go.Proofs.Ytglekbbdbnpohaa.QLn
/- Lane: LaneCredit: the plain law; a row of tickets of the law's own. -/
namespace Go.Proofs.Ytglekbbdbnpohaa.QLn
open Go.RowKit Go.Proofs.YtglekbbdbnpohaaW.PrintWords Go.Proofs.YtglekbbdbnpohaaW.PrintLast Go.Proofs.YtglekbbdbnpohaaW.PrintMore
set_option linter.unusedVariables false
set_option linter.unusedSimpArgs false
/-! ### The plain law -/
structure CI (n : Nat) (a : AS) (ts : List (Int × Int)) : Prop where
  cr : a.credit = n
  laid : ∀ c ∈ a.C, c.laid = true
  inn : ∀ j, j < a.C.length → (ab a.start (a.ready + j), (a.epoch : Int)) ∈ ts
  u : ∀ p ∈ ts, U64 p.1
theorem ci_new (n : Nat) (two : Bool) (st : Int) : CI n (newA n two st) [] where
  cr := rfl
  laid := fun c h => by cases h
  inn := fun j h => by cases h
  u := fun p h => by cases h
theorem lay_new {a : AS} (h : a.tail < 1000000) (n g : Int) : layR (claimA a) (ab a.start a.tail) a.epoch n g = (layA (claimA a) a.C.length n g, 0) := by
  have e : off (claimA a).start (ab a.start a.tail) = a.tail := off_ab (by omega)
  unfold layR
  have hc : (a.epoch : Int) = (claimA a).epoch ∧ inC (claimA a) (off (claimA a).start (ab a.start a.tail)) = true := by
    refine ⟨rfl, ?_⟩
    rw [e]
    unfold inC
    refine decide_eq_true ⟨?_, ?_⟩
    · show a.ready ≤ a.tail; unfold AS.tail; omega
    · show a.tail < (claimA a).ready + (a.C ++ [(⟨false, 0, 0⟩ : Clm)]).length
      rw [List.length_append]
      show a.ready + a.C.length < a.ready + (a.C.length + 1)
      omega
  rw [if_pos hc, e, show a.tail - (claimA a).ready = a.C.length from Nat.add_sub_cancel_left ..]
theorem ci_claim {n : Nat} {a : AS} {ts : List (Int × Int)} (h : CI n a ts) (m g : Int) : CI n (layA (claimA a) a.C.length m g) (ts ++ [(ab a.start a.tail, (a.epoch : Int))]) := by
  have e : (layA (claimA a) a.C.length m g).C = a.C ++ [(⟨true, m, g⟩ : Clm)] := by
    show (a.C ++ [(⟨false, 0, 0⟩ : Clm)]).set a.C.length ⟨true, m, g⟩ = _
    rw [List.set_append_right _ _ (Nat.le_refl _), Nat.sub_self]
    rfl
  refine ⟨h.cr, fun c hc => ?_, fun j hj => ?_, fun p hp => ?_⟩
  · rw [e] at hc
    rcases List.mem_append.1 hc with hc | hc
    · exact h.laid c hc
    · simp only [List.mem_singleton] at hc; rw [hc]
  · rw [e, List.length_append] at hj
    show (ab a.start (a.ready + j), (a.epoch : Int)) ∈ _
    rcases Nat.lt_or_ge j a.C.length with hl | hl
    · exact List.mem_append_left _ (h.inn j hl)
    · have hj1 : j = a.C.length := by simp at hj; omega
      rw [hj1]
      exact List.mem_append_right _ (List.mem_singleton.2 rfl)
  · rcases List.mem_append.1 hp with hp | hp
    · exact h.u p hp
    · simp only [List.mem_singleton] at hp; rw [hp]; exact ab_u64 _ _
theorem ci_pub {n : Nat} {a : AS} {ts : List (Int × Int)} (h : CI n a ts) (q ep x y : Int) : CI n (pubR a q ep x y).1 ts := by
  unfold pubR
  by_cases hc : ep = a.epoch ∧ inC a (off a.start q) = true
  · rw [if_pos hc]
    cases hg : a.C[off a.start q - a.ready]? with
    | none => exact h
    | some c =>
      simp only
      by_cases hl : c.laid = false
      · rw [if_pos hl]; exact h
      · rw [if_neg hl]
        by_cases h0 : off a.start q ≠ a.ready
        · rw [if_pos h0]; exact h
        · rw [if_neg h0]
          refine ⟨h.cr, fun c hc => h.laid c (List.mem_of_mem_tail hc), fun j hj => ?_, h.u⟩
          have hj' : j < a.C.tail.length := hj
          rw [List.length_tail] at hj'
          have e : (pubA a c a.C.tail x y).ready = a.ready + 1 := by unfold AS.ready pubA; simp only [List.length_append]; simp; omega
          show (ab a.start ((pubA a c a.C.tail x y).ready + j), (a.epoch : Int)) ∈ ts
          rw [e, show a.ready + 1 + j = a.ready + (j + 1) by omega]
          exact h.inn (j + 1) (by omega)
  · rw [if_neg hc]; exact h
theorem ci_take {n : Nat} {a : AS} {ts : List (Int × Int)} (h : CI n a ts) : CI n (takeR a).1 ts := by
  unfold takeR
  cases hP : a.P with
  | nil => exact h
  | cons e P =>
    refine ⟨h.cr, h.laid, fun j hj => ?_, h.u⟩
    have e1 : (takeA a e P).ready = a.ready := by unfold AS.ready takeA; rw [hP]; simp; omega
    show (ab a.start ((takeA a e P).ready + j), (a.epoch : Int)) ∈ ts
    rw [e1]
    exact h.inn j hj
theorem ci_ret {n : Nat} {a : AS} {ts : List (Int × Int)} (h : CI n a ts) (q ep : Int) : CI n (retR a q ep).1 ts := by
  unfold retR
  by_cases he : ep ≠ a.epoch
  · rw [if_pos he]; exact h
  · rw [if_neg he]
    cases hf : findA a.A (off a.start q) with
    | none => exact h
    | some p =>
      simp only
      by_cases hh : p.held = true
      · rw [if_pos hh]; exact h
      · rw [if_neg hh]
        by_cases ht : a.two = true
        · rw [if_pos ht]; exact ⟨h.cr, h.laid, h.inn, h.u⟩
        · rw [if_neg ht]; exact ⟨h.cr, h.laid, h.inn, h.u⟩
theorem ci_reset {n : Nat} {a : AS} {ts : List (Int × Int)} (h : CI n a ts) : CI n (resetR a).1 ts := by
  unfold resetR
  by_cases hc : a.C = []
  · rw [if_pos hc]
    exact ⟨h.cr, fun c hc => (by cases hc), fun j hj => (by cases hj), h.u⟩
  · rw [if_neg hc]; exact h
theorem ci_ready {n : Nat} {a : AS} {ts : List (Int × Int)} (h : CI n a ts) (ht : a.tail < 1000000) (hC : a.C ≠ []) : ∃ p ∈ ts, readyR a p.1 p.2 = true := by
  cases hc : a.C with
  | nil => exact absurd hc hC
  | cons c C =>
    refine ⟨_, h.inn 0 (by rw [hc]; simp), ?_⟩
    have e : off a.start (ab a.start (a.ready + 0)) = a.ready := off_ab (by unfold AS.tail at ht; omega)
    have hl : c.laid = true := h.laid c (by rw [hc]; simp)
    unfold readyR
    simp only
    rw [e, hc]
    simp [hl]
theorem held_sum : ∀ (l : List (Nat × Past)), (l.filter (fun x => x.2.held == false)).length + (l.filter (fun x => x.2.held == true)).length = l.length
  | [] => rfl
  | x :: l => by
    have ih := held_sum l
    cases hx : x.2.held <;> simp [List.filter_cons, hx] at ih ⊢ <;> omega
theorem state_sum (a : AS) : heldN a false + heldN a true = a.A.length := held_sum a.A
theorem LnA.bnd {w : World} {b m k : Nat} {a : AS} (h : LnA w b m a k) (hk : k < 1000000) : a.tail < 1000000 ∧ a.total ≤ a.credit ∧ a.credit ≤ 64 := by
  obtain ⟨s, _, _, hr⟩ := h
  have := hr.bn.1
  exact ⟨by omega, hr.tot, hr.c64⟩
/-! ### A row of tickets of the law's own -/
def fT (l : List (Int × Int)) : List Value := l.flatMap (fun p => [.int .u64 p.1, .int .u64 p.2])
theorem fT_len : ∀ l, (fT l).length = l.length * 2
  | [] => rfl
  | x :: l => by
    have ih := fT_len l
    unfold fT at *
    rw [List.flatMap_cons, List.length_append, ih]
    simp; omega
theorem fT_append (l : List (Int × Int)) (p : Int × Int) : fT (l ++ [p]) = fT l ++ [.int .u64 p.1, .int .u64 p.2] := by
  unfold fT; rw [List.flatMap_append]; rfl
theorem fT_get : ∀ (l : List (Int × Int)) (i : Nat) (p : Int × Int), l[i]? = some p → (fT l)[i * 2]? = some (.int .u64 p.1) ∧ (fT l)[i * 2 + 1]? = some (.int .u64 p.2)
  | [], i, p, h => by simp at h
  | x :: l, 0, p, h => by
    simp at h
    subst h
    exact ⟨rfl, rfl⟩
  | x :: l, i + 1, p, h => by
    have ih := fT_get l i p (by simpa using h)
    unfold fT at *
    rw [List.flatMap_cons]
    rw [List.getElem?_append_right (by simp; omega), List.getElem?_append_right (by simp; omega)]
    rw [show (i + 1) * 2 - [Value.int .u64 x.1, Value.int .u64 x.2].length = i * 2 by simp; omega, show (i + 1) * 2 + 1 - [Value.int .u64 x.1, Value.int .u64 x.2].length = i * 2 + 1 by simp; omega]
    exact ih
def TksAt (w : World) (A : Option Addr) (l : List (Int × Int)) : Prop := ∀ (i : Nat) (p : Int × Int), l[i]? = some p → ∃ ad, A = some ad ∧ w.cell? (ad.add (i * 2)) = some (.int .u64 p.1) ∧ w.cell? ⟨(ad.add (i * 2)).block, (ad.add (i * 2)).off + 1, none⟩ = some (.int .u64 p.2)
theorem own_of {w w' : World} {B n size : Nat} {e : TypeId} {v : Value} {xs : List Value} (h : w.ownsRow B e size v n xs) (hk : ∀ g, v.ownBlock = some g → w'.heap[g]? = w.heap[g]?) : w'.ownsRow B e size v n xs := by
  obtain ⟨h1, h2⟩ := h
  refine ⟨h1, ?_⟩
  rcases h2 with h2 | ⟨g, cap, cur, rfl, q1, q2, q3⟩
  · exact Or.inl h2
  · exact Or.inr ⟨g, cap, cur, rfl, q1, (hk g rfl).trans q2, q3⟩
theorem own_reads {w : World} {B : Nat} {v : Value} {ts : List (Int × Int)} (h : w.ownsRow B 34 2 v ts.length (fT ts)) : ∃ A c, v = .slice A ts.length c ∧ ts.length ≤ c ∧ TksAt w A ts := by
  obtain ⟨h1, h2⟩ := h
  rcases h2 with ⟨rfl, h0⟩ | ⟨g, cap, cur, rfl, q1, q2, q3, q4, q5, q6⟩
  · refine ⟨none, 0, by rw [h0], by omega, fun i p hp => ?_⟩
    have := List.eq_nil_of_length_eq_zero h0
    rw [this] at hp
    simp at hp
  · refine ⟨_, cap, rfl, q3, fun i p hp => ⟨_, rfl, ?_⟩⟩
    have hown : w.ownsRow B 34 2 (.slice (some ⟨g, 0, none⟩) ts.length cap) ts.length (fT ts) := ⟨h1, Or.inr ⟨g, cap, cur, rfl, q1, q2, q3, q4, q5, q6⟩⟩
    obtain ⟨e1, e2⟩ := fT_get ts i p hp
    refine ⟨hown.cells rfl _ _ e1, ?_⟩
    rw [← add_field _ _ 1 (by omega)]
    exact hown.cells rfl _ _ e2
/-- What LaneCredit knows: a lane, its own boxes, a row of tickets in a block of its own from B on. -/
structure Cw (w0 : World) (b mb : Nat) (a : AS) (k B : Nat) (v : Value) (ts : List (Int × Int)) (L : List (Nat × Obj)) (w : World) : Prop where
  aw : Aw w0 b mb a k L w
  lt : b < B ∧ mb < B ∧ w0.heap.size ≤ B
  own : w.ownsRow B 34 2 v ts.length (fT ts)
  sz : B ≤ w.heap.size
section
variable {w0 w w' : World} {b mb : Nat} {a a' : AS} {k k' B : Nat} {v v' : Value} {ts : List (Int × Int)} {L L' : List (Nat × Obj)}
theorem Cw.below (h : Cw w0 b mb a k B v ts L w) (j : Below w.heap.size w w') : Cw w0 b mb a k B v ts L w' :=
  ⟨h.aw.below j, h.lt, own_of h.own (fun g hg => j.block g (h.own.lt g hg).2), Nat.le_trans h.sz j.size⟩
theorem Cw.alloc (h : Cw w0 b mb a k B v ts L w) (o : Obj) : Cw w0 b mb a k B v ts ((w.heap.size, o) :: L) (w.alloc o) :=
  ⟨h.aw.alloc o, h.lt, h.own.alloc o, Nat.le_trans h.sz (by show _ ≤ (w.heap.push o).size; rw [Array.size_push]; omega)⟩
theorem Cw.call (h : Cw w0 b mb a k B v ts L w) (hl : LnA w' b mb a' k') (j : Far b mb w w') : Cw w0 b mb a' k' B v ts L w' :=
  ⟨h.aw.call hl j, h.lt, own_of h.own (fun g hg => by have h1 := h.own.lt g hg; have h2 := h.lt; exact j.block g h1.2 (by omega) (by omega)), Nat.le_trans h.sz j.size⟩
theorem Cw.sub (h : Cw w0 b mb a k B v ts L w) (hs : ∀ p ∈ L', p ∈ L) : Cw w0 b mb a k B v ts L' w :=
  ⟨⟨h.aw.ln, h.aw.be, h.aw.hb, h.aw.hm, fun p hp => h.aw.obj p (hs p hp)⟩, h.lt, h.own, h.sz⟩
theorem Cw.mono (h : Cw w0 b mb a k B v ts L w) (hk : k ≤ k') : Cw w0 b mb a k' B v ts L w := ⟨⟨h.aw.ln.mono hk, h.aw.be, h.aw.hb, h.aw.hm, h.aw.obj⟩, h.lt, h.own, h.sz⟩
theorem Cw.app (h : Cw w0 b mb a k B v ts L w) {q ep : Int} (hg : w.grownBy w' v.ownBlock) (ho : w'.ownsRow B 34 2 v' (ts.length + 1) (fT ts ++ [.int .u64 q, .int .u64 ep])) : Cw w0 b mb a k B v' (ts ++ [(q, ep)]) [] w' := by
  have hrow : ∀ i, i < w.heap.size → i < B → w'.heap[i]? = w.heap[i]? := fun i hi hB => hg.block i hi (fun e => by have := (h.own.lt i e.symm).1; omega)
  have hlt := h.aw.ln.lt
  refine ⟨⟨?_, ?_, h.aw.hb, h.aw.hm, fun p hp => by cases hp⟩, h.lt, ?_, Nat.le_trans h.sz hg.size⟩
  · obtain ⟨s, hs, hm, hr⟩ := h.aw.ln
    exact ⟨s, hs.of (hrow b hlt.1 h.lt.1) (by rw [hm]; exact hrow mb hlt.2.1 h.lt.2.1), hm, hr⟩
  · exact h.aw.be.trans ⟨hg.os, hg.tape, hg.output, hg.size, fun i hi => hrow i (Nat.lt_of_lt_of_le hi h.aw.be.size) (Nat.lt_of_lt_of_le hi h.lt.2.2)⟩
  · rw [List.length_append, fT_append]
    exact ho
theorem Cw.reads (h : Cw w0 b mb a k B v ts L w) : ∃ A c, v = .slice A ts.length c ∧ ts.length ≤ c ∧ TksAt w A ts := own_reads h.own
end
end Go.Proofs.Ytglekbbdbnpohaa.QLn
/- Lane: LaneQueue: the plain law; the law's two rows. -/
namespace Go.Proofs.Ytglekbbdbnpohaa.QLn
open Go.RowKit Go.Proofs.YtglekbbdbnpohaaW.PrintWords Go.Proofs.YtglekbbdbnpohaaW.PrintLast Go.Proofs.YtglekbbdbnpohaaW.PrintMore
set_option linter.unusedVariables false
set_option linter.unusedSimpArgs false
/-! ### The plain law -/
/-- The tickets that are not taken, in their order. -/
def tsOf (a : AS) : List (Int × Int) := (List.range (a.P.length + a.C.length)).map (fun i => (ab a.start (a.head + i), (a.epoch : Int)))
/-- The slots that were laid last. -/
def ssOf (a : AS) : List (Int × Int) := a.P.map (fun e => (e.n, e.g)) ++ a.C.map (fun c => (c.n, c.g))
theorem ts_len (a : AS) : (tsOf a).length = a.P.length + a.C.length := by unfold tsOf; rw [List.length_map, List.length_range]
theorem ss_len (a : AS) : (ssOf a).length = a.P.length + a.C.length := by unfold ssOf; rw [List.length_append, List.length_map, List.length_map]
theorem ts_get {a : AS} {i : Nat} (h : i < a.P.length + a.C.length) : (tsOf a)[i]? = some (ab a.start (a.head + i), (a.epoch : Int)) := by
  unfold tsOf
  rw [List.getElem?_map, List.getElem?_range h]
  rfl
theorem ts_same {a a' : AS} (h1 : a'.P.length + a'.C.length = a.P.length + a.C.length) (h2 : a'.start = a.start) (h3 : a'.head = a.head) (h4 : a'.epoch = a.epoch) : tsOf a' = tsOf a := by
  unfold tsOf; rw [h1, h2, h3, h4]
theorem q_new (n : Nat) (two : Bool) (st : Int) : tsOf (newA n two st) = [] ∧ ssOf (newA n two st) = [] := ⟨rfl, rfl⟩
theorem q_claim (a : AS) : tsOf (claimA a) = tsOf a ++ [(ab a.start a.tail, (a.epoch : Int))] ∧ ssOf (claimA a) = ssOf a ++ [(0, 0)] := by
  constructor
  · unfold tsOf
    show (List.range (a.P.length + (a.C ++ [(⟨false, 0, 0⟩ : Clm)]).length)).map _ = _
    rw [List.length_append, show a.P.length + (a.C.length + [(⟨false, 0, 0⟩ : Clm)].length) = (a.P.length + a.C.length) + 1 from rfl, List.range_succ, List.map_append]
    have e : a.head + (a.P.length + a.C.length) = a.tail := by unfold AS.tail AS.ready; omega
    rw [← e]
    rfl
  · unfold ssOf
    show a.P.map _ ++ (a.C ++ [(⟨false, 0, 0⟩ : Clm)]).map _ = _
    rw [List.map_append, List.append_assoc]
    rfl
theorem q_pub (a : AS) (q ep x y : Int) : tsOf (pubR a q ep x y).1 = tsOf a ∧ ssOf (pubR a q ep x y).1 = ssOf a := by
  unfold pubR
  by_cases hc : ep = a.epoch ∧ inC a (off a.start q) = true
  · rw [if_pos hc]
    cases hg : a.C[off a.start q - a.ready]? with
    | none => exact ⟨rfl, rfl⟩
    | some c =>
      simp only
      by_cases hl : c.laid = false
      · rw [if_pos hl]; exact ⟨rfl, rfl⟩
      · rw [if_neg hl]
        by_cases h0 : off a.start q ≠ a.ready
        · rw [if_pos h0]; exact ⟨rfl, rfl⟩
        · rw [if_neg h0]
          have hz : off a.start q - a.ready = 0 := by omega
          rw [hz] at hg
          cases hC : a.C with
          | nil => rw [hC] at hg; simp at hg
          | cons c0 C =>
            rw [hC] at hg
            have hcc : c0 = c := by simpa using hg
            subst hcc
            refine ⟨ts_same ?_ rfl rfl rfl, ?_⟩
            · show (a.P ++ [(⟨3, c0.n, c0.g, x, y⟩ : Ent)]).length + C.length = _
              rw [hC, List.length_append]; simp; omega
            · unfold ssOf
              show (a.P ++ [(⟨3, c0.n, c0.g, x, y⟩ : Ent)]).map _ ++ C.map _ = _
              rw [hC, List.map_append, List.append_assoc]
              rfl
  · rw [if_neg hc]; exact ⟨rfl, rfl⟩
theorem q_ret (a : AS) (q ep : Int) : tsOf (retR a q ep).1 = tsOf a ∧ ssOf (retR a q ep).1 = ssOf a := by
  unfold retR
  by_cases he : ep ≠ a.epoch
  · rw [if_pos he]; exact ⟨rfl, rfl⟩
  · rw [if_neg he]
    cases hf : findA a.A (off a.start q) with
    | none => exact ⟨rfl, rfl⟩
    | some p =>
      simp only
      by_cases hh : p.held = true
      · rw [if_pos hh]; exact ⟨rfl, rfl⟩
      · rw [if_neg hh]
        by_cases ht : a.two = true
        · rw [if_pos ht]; exact ⟨rfl, rfl⟩
        · rw [if_neg ht]; exact ⟨rfl, rfl⟩
theorem q_take {a : AS} {e : Ent} {P : List Ent} (hP : a.P = e :: P) : takeR a = (takeA a e P, .tuple #[.agg (aSlot e.n e.g), .agg (aTick (ab a.start a.head) a.epoch), .int .i64 0]) ∧ tsOf a = (ab a.start a.head, (a.epoch : Int)) :: tsOf (takeA a e P) ∧ ssOf a = (e.n, e.g) :: ssOf (takeA a e P) := by
  refine ⟨by unfold takeR; rw [hP], ?_, ?_⟩
  · unfold tsOf
    show _ = _ :: (List.range (P.length + a.C.length)).map (fun i => (ab a.start (a.head + 1 + i), (a.epoch : Int)))
    rw [hP, show (e :: P).length + a.C.length = (P.length + a.C.length) + 1 by simp; omega, List.range_succ_eq_map, List.map_cons, List.map_map]
    refine List.cons_eq_cons.2 ⟨rfl, List.map_congr_left (fun i _ => ?_)⟩
    show (ab a.start (a.head + (i + 1)), _) = _
    rw [show a.head + (i + 1) = a.head + 1 + i by omega]
  · unfold ssOf
    rw [hP]
    rfl
theorem q_take0 {a : AS} (hP : a.P = []) : takeR a = (a, .tuple #[.agg (aSlot 0 0), .agg (aTick 0 0), .int .i64 82]) := by unfold takeR; rw [hP]
theorem q_reset {a : AS} (hC : a.C = []) : resetR a = (resetA a, 0) ∧ tsOf (resetA a) = [] ∧ ssOf (resetA a) = [] := ⟨by unfold resetR; rw [if_pos hC], rfl, rfl⟩
theorem q_reset0 {a : AS} (hC : a.C ≠ []) : resetR a = (a, 84) := by unfold resetR; rw [if_neg hC]
/-- A slot that is laid turns just the place of its ticket. -/
theorem q_lay (a : AS) (ht : a.tail < 1000000) {q : Int} (hq : U64 q) (ep n g : Int) : ∃ (er : Int) (K : Nat), (layR a q ep n g).2 = er ∧ tsOf (layR a q ep n g).1 = tsOf a ∧ ssOf (layR a q ep n g).1 = (ssOf a).set K (n, g) ∧
    ∀ i, i < (tsOf a).length → (er = 0 ∧ (tsOf a)[i]? = some (q, ep) ↔ i = K) := by
  unfold layR
  by_cases hc : ep = a.epoch ∧ inC a (off a.start q) = true
  · rw [if_pos hc]
    have hi := hc.2
    unfold inC at hi
    rw [decide_eq_true_iff] at hi
    have hlt : off a.start q - a.ready < a.C.length := by unfold AS.tail at hi; omega
    refine ⟨0, a.P.length + (off a.start q - a.ready), rfl, ts_same ?_ rfl rfl rfl, ?_, fun i hil => ?_⟩
    · show a.P.length + (a.C.set _ _).length = _
      rw [List.length_set]
    · unfold ssOf
      show a.P.map _ ++ (a.C.set (off a.start q - a.ready) (⟨true, n, g⟩ : Clm)).map _ = _
      rw [List.map_set, List.set_append_right _ _ (by rw [List.length_map]; omega), List.length_map, Nat.add_sub_cancel_left]
    · rw [ts_len] at hil
      rw [ts_get hil]
      constructor
      · rintro ⟨_, h⟩
        have h1 : ab a.start (a.head + i) = q := by
          have := Option.some.inj h
          exact congrArg Prod.fst this
        have h2 : off a.start q = a.head + i := by rw [← h1]; exact off_ab (by unfold AS.tail AS.ready at ht; omega)
        rw [h2]; unfold AS.ready; unfold AS.ready at hi; omega
      · intro h
        refine ⟨rfl, ?_⟩
        have h2 : a.head + i = off a.start q := by unfold AS.ready at h hi; omega
        rw [h2, ab_off hq, hc.1]
  · rw [if_neg hc]
    refine ⟨82, (ssOf a).length, rfl, rfl, (List.set_eq_of_length_le (Nat.le_refl _)).symm, fun i hil => ?_⟩
    rw [ts_len] at hil
    rw [ss_len]
    constructor
    · rintro ⟨h, _⟩; omega
    · intro h; omega
/-! ### The rows -/
def fQ (l : List (Int × Int)) : List Value := l.flatMap (fun p => [.int .i64 p.1, .int .u64 p.2])
theorem fQ_len : ∀ l, (fQ l).length = l.length * 2
  | [] => rfl
  | x :: l => by
    have ih := fQ_len l
    unfold fQ at *
    rw [List.flatMap_cons, List.length_append, ih]
    simp; omega
theorem fQ_append (l : List (Int × Int)) (p : Int × Int) : fQ (l ++ [p]) = fQ l ++ [.int .i64 p.1, .int .u64 p.2] := by
  unfold fQ; rw [List.flatMap_append]; rfl
theorem fQ_cons (p : Int × Int) (l : List (Int × Int)) : fQ (p :: l) = [.int .i64 p.1, .int .u64 p.2] ++ fQ l := by
  unfold fQ; rw [List.flatMap_cons]
theorem fT_cons (p : Int × Int) (l : List (Int × Int)) : fT (p :: l) = [.int .u64 p.1, .int .u64 p.2] ++ fT l := by
  unfold fT; rw [List.flatMap_cons]
theorem fQ_get : ∀ (l : List (Int × Int)) (i : Nat) (p : Int × Int), l[i]? = some p → (fQ l)[i * 2]? = some (.int .i64 p.1) ∧ (fQ l)[i * 2 + 1]? = some (.int .u64 p.2)
  | [], i, p, h => by simp at h
  | x :: l, 0, p, h => by
    simp at h
    subst h
    exact ⟨rfl, rfl⟩
  | x :: l, i + 1, p, h => by
    have ih := fQ_get l i p (by simpa using h)
    rw [fQ_cons, List.getElem?_append_right (by simp; omega), List.getElem?_append_right (by simp; omega)]
    rw [show (i + 1) * 2 - [Value.int .i64 x.1, Value.int .u64 x.2].length = i * 2 by simp; omega, show (i + 1) * 2 + 1 - [Value.int .i64 x.1, Value.int .u64 x.2].length = i * 2 + 1 by simp; omega]
    exact ih
theorem fQ_other : ∀ (l : List (Int × Int)) (K : Nat) (p : Int × Int) (j : Nat), j < K * 2 ∨ K * 2 + 2 ≤ j → (fQ (l.set K p))[j]? = (fQ l)[j]?
  | [], K, p, j, h => by simp
  | x :: l, 0, p, j, h => by
    rw [List.set_cons_zero, fQ_cons, fQ_cons, List.getElem?_append_right (by simp; omega), List.getElem?_append_right (by simp; omega)]
    rfl
  | x :: l, K + 1, p, j, h => by
    rw [List.set_cons_succ, fQ_cons, fQ_cons]
    rcases Nat.lt_or_ge j 2 with hj | hj
    · rw [List.getElem?_append_left (by simpa using hj), List.getElem?_append_left (by simpa using hj)]
    · rw [List.getElem?_append_right (by simpa using hj), List.getElem?_append_right (by simpa using hj)]
      exact fQ_other l K p (j - 2) (by omega)
/-- What LaneQueue knows: a lane, its own boxes, a row of tickets and a row of slots in blocks of their own from B on. -/
structure Qw (w0 : World) (b mb : Nat) (a : AS) (k B : Nat) (v : Value) (ts : List (Int × Int)) (u : Value) (ss : List (Int × Int)) (L : List (Nat × Obj)) (w : World) : Prop where
  aw : Aw w0 b mb a k L w
  lt : b < B ∧ mb < B ∧ w0.heap.size ≤ B
  ro : RowQ w B 34 2 v ts.length (fT ts)
  rs : RowQ w B 36 2 u ss.length (fQ ss)
  sz : B ≤ w.heap.size
section
variable {w0 w w' : World} {b mb : Nat} {a a' : AS} {k k' B : Nat} {v v' u u' : Value} {ts ss : List (Int × Int)} {L L' : List (Nat × Obj)}
theorem Qw.below (h : Qw w0 b mb a k B v ts u ss L w) (j : Below w.heap.size w w') : Qw w0 b mb a k B v ts u ss L w' :=
  ⟨h.aw.below j, h.lt, h.ro.below j, h.rs.below j, Nat.le_trans h.sz j.size⟩
theorem Qw.alloc (h : Qw w0 b mb a k B v ts u ss L w) (o : Obj) : Qw w0 b mb a k B v ts u ss ((w.heap.size, o) :: L) (w.alloc o) :=
  have j := (Below.refl _ w).alloc (Nat.le_refl _) o
  ⟨h.aw.alloc o, h.lt, h.ro.below j, h.rs.below j, Nat.le_trans h.sz j.size⟩
theorem Qw.alloc2 (h : Qw w0 b mb a k B v ts u ss L w) (o o' : Obj) : Qw w0 b mb a k B v ts u ss ((w.heap.size + 1, o') :: (w.heap.size, o) :: L) ((w.alloc o).alloc o') := by
  have e : (w.alloc o).heap.size = w.heap.size + 1 := by show (w.heap.push o).size = _; rw [Array.size_push]
  have h1 := (h.alloc o).alloc o'
  rw [e] at h1
  exact h1
theorem Qw.call (h : Qw w0 b mb a k B v ts u ss L w) (hl : LnA w' b mb a' k') (j : Far b mb w w') : Qw w0 b mb a' k' B v ts u ss L w' :=
  ⟨h.aw.call hl j, h.lt, h.ro.of (fun g _ hg hw => j.block g (Array.getElem?_eq_some_iff.1 hw).1 (by have := h.lt; omega) (by have := h.lt; omega)), h.rs.of (fun g _ hg hw => j.block g (Array.getElem?_eq_some_iff.1 hw).1 (by have := h.lt; omega) (by have := h.lt; omega)), Nat.le_trans h.sz j.size⟩
theorem Qw.sub (h : Qw w0 b mb a k B v ts u ss L w) (hs : ∀ p ∈ L', p ∈ L) : Qw w0 b mb a k B v ts u ss L' w :=
  ⟨⟨h.aw.ln, h.aw.be, h.aw.hb, h.aw.hm, fun p hp => h.aw.obj p (hs p hp)⟩, h.lt, h.ro, h.rs, h.sz⟩
theorem Qw.mono (h : Qw w0 b mb a k B v ts u ss L w) (hk : k ≤ k') : Qw w0 b mb a k' B v ts u ss L w := ⟨⟨h.aw.ln.mono hk, h.aw.be, h.aw.hb, h.aw.hm, h.aw.obj⟩, h.lt, h.ro, h.rs, h.sz⟩
theorem Qw.only {e : TypeId} (h : Qw w0 b mb a k B v ts u ss L w) (ho : Only B e w w') : Aw w0 b mb a k [] w' ∧ B ≤ w'.heap.size := by
  have hrow : ∀ i, i < w.heap.size → i < B → w'.heap[i]? = w.heap[i]? := fun i hi hB => ho.old hi hB
  have hlt := h.aw.ln.lt
  refine ⟨⟨?_, ?_, h.aw.hb, h.aw.hm, fun p hp => by cases hp⟩, Nat.le_trans h.sz ho.size⟩
  · obtain ⟨s, hs, hm, hr⟩ := h.aw.ln
    exact ⟨s, hs.of (hrow b hlt.1 h.lt.1) (by rw [hm]; exact hrow mb hlt.2.1 h.lt.2.1), hm, hr⟩
  · exact h.aw.be.trans ⟨ho.os, ho.tape, ho.output, ho.size, fun i hi => hrow i (Nat.lt_of_lt_of_le hi h.aw.be.size) (Nat.lt_of_lt_of_le hi h.lt.2.2)⟩
theorem Qw.out (h : Qw w0 b mb a k B v ts u ss L w) {q ep : Int} (ho : Only B 34 w w') (hr : RowQ w' B 34 2 v' (ts.length + 1) (fT ts ++ [.int .u64 q, .int .u64 ep])) : Qw w0 b mb a k B v' (ts ++ [(q, ep)]) u ss [] w' := by
  obtain ⟨h1, h2⟩ := h.only ho
  refine ⟨h1, h.lt, ?_, h.rs.only ho (by decide), h2⟩
  rw [List.length_append, fT_append]
  exact hr
theorem Qw.slots (h : Qw w0 b mb a k B v ts u ss L w) {n g : Int} (ho : Only B 36 w w') (hr : RowQ w' B 36 2 u' (ss.length + 1) (fQ ss ++ [.int .i64 n, .int .u64 g])) : Qw w0 b mb a k B v ts u' (ss ++ [(n, g)]) [] w' := by
  obtain ⟨h1, h2⟩ := h.only ho
  refine ⟨h1, h.lt, h.ro.only ho (by decide), ?_, h2⟩
  rw [List.length_append, fQ_append]
  exact hr
theorem Qw.nil (h : Qw w0 b mb a k B v ts u ss L w) : Qw w0 b mb a k B (.slice none 0 0) [] (.slice none 0 0) [] L w := ⟨h.aw, h.lt, RowQ.nil _ _ _ _, RowQ.nil _ _ _ _, h.sz⟩
/-- Where a ticket of the row lies. -/
theorem Qw.tick {A : Option Addr} {n c : Nat} (h : Qw w0 b mb a k B (.slice A n c) ts u ss L w) {i : Nat} {p : Int × Int} (hp : ts[i]? = some p) : ∃ g o, A = some ⟨g, o, none⟩ ∧ w.cell? ⟨g, o + i * 2, none⟩ = some (.int .u64 p.1) ∧ w.cell? ⟨g, o + i * 2 + 1, none⟩ = some (.int .u64 p.2) := by
  have hi := (List.getElem?_eq_some_iff.1 hp).1
  obtain ⟨g, o, cap, cur, hv, q1, q2, q3, q4, q5⟩ := h.ro.lies (by omega)
  injection hv with e1 e2 e3
  subst e1
  obtain ⟨f1, f2⟩ := fT_get ts i p hp
  refine ⟨g, o, rfl, ?_, ?_⟩ <;> simp only [World.cell?, q2]
  · exact q5 _ _ f1
  · exact q5 _ _ f2
theorem Qw.slot {A : Option Addr} {n c : Nat} (h : Qw w0 b mb a k B v ts (.slice A n c) ss L w) {i : Nat} {p : Int × Int} (hp : ss[i]? = some p) : ∃ g o cur, A = some ⟨g, o, none⟩ ∧ w.heap[g]? = some (.cells cur 36 (0, 0)) ∧ o + i * 2 + 2 ≤ cur.size ∧ w.cell? ⟨g, o + i * 2, none⟩ = some (.int .i64 p.1) ∧ w.cell? ⟨g, o + i * 2 + 1, none⟩ = some (.int .u64 p.2) ∧
    ∀ n' g' : Int, Qw w0 b mb a k B v ts (.slice A n c) (ss.set i (n', g')) [] (w.setCells g (o + i * 2) [.int .i64 n', .int .u64 g']) := by
  have hi := (List.getElem?_eq_some_iff.1 hp).1
  obtain ⟨g, o, cap, cur, hv, q1, q2, q3, q4, q5⟩ := h.rs.lies (by omega)
  injection hv with e1 e2 e3
  subst e1 e3
  obtain ⟨f1, f2⟩ := fQ_get ss i p hp
  refine ⟨g, o, cur, rfl, q2, by omega, ?_, ?_, fun n' g' => ?_⟩
  · simp only [World.cell?, q2]; exact q5 _ _ f1
  · simp only [World.cell?, q2]; exact q5 _ _ f2
  · have ho : Only B 36 w (w.setCells g (o + i * 2) [.int .i64 n', .int .u64 g']) := Only.set q1 q2 _ _
    obtain ⟨h1, h2⟩ := h.only ho
    refine ⟨h1, h.lt, h.ro.only ho (by decide), ?_, h2⟩
    rw [List.length_set, e2]
    have hg : (ss.set i (n', g'))[i]? = some (n', g') := by rw [List.getElem?_set_self hi]
    obtain ⟨k1, k2⟩ := fQ_get _ i _ hg
    refine RowQ.set h.rs.1 (by omega) q1 q2 q3 q4 q5 i hi _ rfl _ (by rw [fQ_len, fQ_len, List.length_set]) (fun j hj => ?_) (fun j hj => fQ_other ss i _ j hj)
    rcases Nat.lt_or_ge j 1 with h0 | h0
    · have : j = 0 := by omega
      subst this
      exact k1
    · have : j = 1 := by omega
      subst this
      exact k2
theorem Qw.forms (h : Qw w0 b mb a k B v ts u ss L w) : ∃ A c A' c', v = .slice A ts.length c ∧ u = .slice A' ss.length c' ∧ ts.length ≤ c ∧ ss.length ≤ c' := by
  obtain ⟨A, c, e1, e2⟩ := h.ro.form
  obtain ⟨A', c', e3, e4⟩ := h.rs.form
  exact ⟨A, c, A', c', e1, e3, e2, e4⟩
/-- Both rows without their first. -/
theorem Qw.tails {p s : Int × Int} {g o c g' o' c' n m : Nat} (h : Qw w0 b mb a k B (.slice (some ⟨g, o, none⟩) n c) (p :: ts) (.slice (some ⟨g', o', none⟩) m c') (s :: ss) L w) :
    Qw w0 b mb a k B (.slice (if c = 1 then some ⟨g, o, none⟩ else some ⟨g, o + 2, none⟩) ts.length (c - 1)) ts (.slice (if c' = 1 then some ⟨g', o', none⟩ else some ⟨g', o' + 2, none⟩) ss.length (c' - 1)) ss L w := by
  have h1 := h.ro
  have h2 := h.rs
  rw [fT_cons] at h1
  rw [fQ_cons] at h2
  have e1 : n = ts.length + 1 := by
    obtain ⟨A, c, e, _⟩ := h.ro.form
    injection e
  have e2 : m = ss.length + 1 := by
    obtain ⟨A, c, e, _⟩ := h.rs.form
    injection e
  subst e1 e2
  exact ⟨h.aw, h.lt, RowQ.tail h1 rfl, RowQ.tail h2 rfl, h.sz⟩
end
end Go.Proofs.Ytglekbbdbnpohaa.QLn
/- Lane: the document's lane in memory: a block of five cells, a row of messages; appending row to row. -/
namespace Go.Proofs.Ytglekbbdbnpohaa.QLn
open Go.RowKit Go.Proofs.YtglekbbdbnpohaaW.PrintWords Go.Proofs.YtglekbbdbnpohaaW.PrintLast Go.Proofs.YtglekbbdbnpohaaW.PrintMore
set_option linter.unusedVariables false
set_option linter.unusedSimpArgs false
/-! ### Appending row to row -/
/-- Elements that lie at a slice's address. -/
def SrcAt (w : World) (A : Option Addr) (ys : List Value) : Prop := ∀ (j : Nat) u, ys[j]? = some u → ∃ ad, A = some ad ∧ w.cell? (ad.add j) = some u
theorem SrcAt.nil (w : World) (A : Option Addr) : SrcAt w A [] := fun j u h => by simp at h
theorem RowQ.src {w : World} {B : Nat} {e : TypeId} {sz : Nat} {A : Option Addr} {c n : Nat} {xs : List Value} (h : RowQ w B e sz (.slice A n c) n xs) : SrcAt w A xs := by
  intro j u hj
  obtain ⟨h1, h2⟩ := h
  rcases h2 with ⟨rfl, _⟩ | ⟨g, o, cap, cur, hv, q0, q1, q2, q3, q4, q5⟩
  · have h0 : xs = [] := List.eq_nil_of_length_eq_zero (by omega)
    rw [h0] at hj
    simp at hj
  · injection hv with e1 e2 e3
    subst e1
    refine ⟨_, rfl, ?_⟩
    rw [Addr.add_lit]
    simp only [World.cell?, q2]
    exact q5 j u hj
section
variable {P : Program} (w : World)
theorem run_append_empty (t ty e : TypeId) (i : TypeInfo) (ht : P.underlying t = some (.slice e)) (hi : P.info? e = some i) (b : Addr) (S : Option Addr) (c : Nat) :
    (Builtin.append_ #[t, t] ty #[.slice (some b) 0 0, .slice S 0 c]).run P w = .ok (.slice (some b) 0 0) w := by
  cases S with
  | none => simp [Builtin.append_, run_underlying ht, sizeOf, typeInfo, hi, Builtin.lenOf, Builtin.firstCells, storeCells]
  | some a =>
    have hfc := run_firstCells_some (P := P) w i.size 0 a 0 c [] (by simp) (by simp)
    simp [Builtin.append_, run_underlying ht, sizeOf, typeInfo, hi, Builtin.lenOf, hfc, storeCells]
/-- A copy: a row appended to an empty slice without capacity. -/
theorem run_copy (t ty e : TypeId) (i : TypeInfo) (z : Value) (size bytes : Nat) (h1 : P.underlying t = some (.slice e)) (h2 : P.info? e = some i) (h3 : i.zero = some z) (h4 : i.size = size) (h5 : i.bytes = bytes) (h6 : z.cells.size = size) (h7 : 0 < size)
    (b : Addr) (S : Option Addr) (m c : Nat) (ys : List Value) (hl : ys.length = m * size) (hsrc : SrcAt w S ys) (b1 : m ≤ maxLen) (b2 : m * bytes ≤ 140737488355328) :
    ∃ v' w', (Builtin.append_ #[t, t] ty #[.slice (some b) 0 0, .slice S m c]).run P w = .ok v' w' ∧ RowQ w' w.heap.size e size v' m ys ∧ w.grownBy w' none := by
  rcases Nat.eq_zero_or_pos m with rfl | hm
  · have h0 : ys = [] := List.eq_nil_of_length_eq_zero (by omega)
    subst h0
    exact ⟨_, _, run_append_empty w t ty e i h1 h2 b S c, ⟨by simp, Or.inl ⟨rfl, _, rfl⟩⟩, ⟨rfl, rfl, rfl, Nat.le_refl _, fun _ _ _ => rfl⟩⟩
  · have hlt : 0 < ys.length := by rw [hl]; exact Nat.mul_pos hm h7
    obtain ⟨ad, rfl, _⟩ := hsrc 0 _ (List.getElem?_eq_getElem hlt)
    have hc : ∀ j u, ys[j]? = some u → w.cell? (ad.add j) = some u := fun j u hj => by
      obtain ⟨ad', e1, e2⟩ := hsrc j u hj
      cases e1
      exact e2
    obtain ⟨v', w', hrun, r1, r2⟩ := run_append_arg_grows (P := P) w t ty e i z size bytes h1 h2 h3 h4 h5 h6 h7 b 0 0 [] (by simp) (fun j u hj => by simp at hj) ad m c ys hl hc (by omega) (by omega) (by rw [Nat.zero_add]; exact b2)
    rw [Nat.zero_add, List.nil_append] at r1
    exact ⟨v', w', hrun, RowQ.own r1 hm, r2⟩
/-- A row appended to a row. -/
theorem run_append_row (t ty e : TypeId) (i : TypeInfo) (z : Value) (size bytes : Nat) (h1 : P.underlying t = some (.slice e)) (h2 : P.info? e = some i) (h3 : i.zero = some z) (h4 : i.size = size) (h5 : i.bytes = bytes) (h6 : z.cells.size = size) (h7 : 0 < size)
    (B : Nat) (v : Value) (n : Nat) (xs : List Value) (hrow : RowQ w B e size v n xs) (hB : B ≤ w.heap.size)
    (ad : Addr) (m c : Nat) (ys : List Value) (hl : ys.length = m * size) (hc : ∀ j u, ys[j]? = some u → w.cell? (ad.add j) = some u) (h1c : ∀ u ∈ ys, u.oneCell' = true) (b1 : n + m ≤ maxLen) (b2 : (n + m) * bytes ≤ 140737488355328) :
    ∃ v' w', (Builtin.append_ #[t, t] ty #[v, .slice (some ad) m c]).run P w = .ok v' w' ∧ RowQ w' B e size v' (n + m) (xs ++ ys) ∧ Only B e w w' := by
  obtain ⟨hl0, hr⟩ := hrow
  have grow : ∀ (A : Option Addr) (cap : Nat), v = .slice A n cap → (A = none → n = 0 ∧ cap = 0) → (∀ b, A = some b → ∀ j u, xs[j]? = some u → w.cell? (b.add j) = some u) → cap < n + m → ∃ v' w', (Builtin.append_ #[t, t] ty #[v, .slice (some ad) m c]).run P w = .ok v' w' ∧ RowQ w' B e size v' (n + m) (xs ++ ys) ∧ Only B e w w' := by
    intro A cap hv hnone hx hfull
    subst hv
    cases A with
    | some b =>
      obtain ⟨v', w', hrun, r1, r2⟩ := run_append_arg_grows (P := P) w t ty e i z size bytes h1 h2 h3 h4 h5 h6 h7 b n cap xs hl0 (hx b rfl) ad m c ys hl hc hfull b1 b2
      exact ⟨v', w', hrun, (RowQ.own r1 (by omega)).base hB, Only.of_grown r2⟩
    | none =>
      obtain ⟨rfl, rfl⟩ := hnone rfl
      have h0 : xs = [] := List.eq_nil_of_length_eq_zero (by omega)
      subst h0
      obtain ⟨v', w', hrun, r1, r2, _⟩ := run_append_own (P := P) w w.heap.size t ty e i z size bytes h1 h2 h3 h4 h5 h6 h7 (.slice none 0 0) 0 [] (World.ownsRow_nil w _ e size) ad m c ys hl hc h1c b1 b2 (Nat.le_refl _)
      exact ⟨v', w', hrun, (RowQ.own r1 (by omega)).base hB, Only.of_grown r2⟩
  rcases hr with ⟨rfl, A, rfl⟩ | ⟨g, off, cap, cur, rfl, q0, q1, q2, q3, q4, q5⟩
  · rcases Nat.eq_zero_or_pos m with rfl | hm
    · have h0 : xs = [] := List.eq_nil_of_length_eq_zero (by omega)
      have h0' : ys = [] := List.eq_nil_of_length_eq_zero (by omega)
      subst h0 h0'
      refine ⟨.slice A 0 0, w, ?_, ⟨by simp, Or.inl ⟨rfl, _, rfl⟩⟩, ⟨rfl, rfl, rfl, Nat.le_refl _, fun _ _ => Or.inl rfl⟩⟩
      have hfc := run_firstCells_some (P := P) w i.size 0 ad 0 c [] (by simp) (by simp)
      cases A with
      | none => simp [Builtin.append_, run_underlying h1, sizeOf, typeInfo, h2, Builtin.lenOf, hfc, storeCells]
      | some b => simp [Builtin.append_, run_underlying h1, sizeOf, typeInfo, h2, Builtin.lenOf, hfc, storeCells]
    · exact grow A 0 rfl (fun _ => ⟨rfl, rfl⟩) (fun b _ j u hj => by rw [List.eq_nil_of_length_eq_zero (by omega : xs.length = 0)] at hj; simp at hj) (by omega)
  · by_cases hroom : n + m ≤ cap
    · have hle : n * size + m * size ≤ cap * size := by rw [← Nat.add_mul]; exact Nat.mul_le_mul_right _ hroom
      have hrun := run_append_room_cells (P := P) w t ty e i h1 h2 g off n cap ad m c ys (by rw [h4]; exact hl) hc h1c hroom (fun j hj => by
        have hlt : off + n * i.size + j < cur.size := by rw [h4]; omega
        simp [World.cell?, q2, hlt]) (fun j hj => by simp [World.frozen?, q2])
      rw [h4] at hrun
      refine ⟨_, _, hrun, ?_, Only.set q1 q2 _ _⟩
      refine ⟨by rw [List.length_append, hl0, hl, Nat.add_mul], Or.inr ⟨g, off, cap, _, rfl, q0, q1, blk_setCells _ _ _ _ q2, hroom, by rw [size_setAll]; exact q4, fun j u hj => ?_⟩⟩
      rw [get_setAll _ _ _ _ (by omega)]
      by_cases hlt : j < n * size
      · rw [if_neg (by omega)]
        rw [List.getElem?_append_left (by omega)] at hj
        exact q5 j u hj
      · rw [List.getElem?_append_right (by omega), hl0] at hj
        have := (List.getElem?_eq_some_iff.1 hj).1
        rw [if_pos (by omega), show off + j - (off + n * size) = j - n * size by omega]
        exact hj
    · exact grow _ cap rfl (fun e => by cases e) (fun b hb j u hj => by cases hb; rw [Addr.add_lit]; simp only [World.cell?, q2]; exact q5 j u hj) (by omega)
theorem app_at {o : Oper} {a : Act} {K : Act → World → Prop} {Q : Exit → Act → World → Prop} (s x : Operand) (t : TypeId) (hop : o.op = Op.call { callee := Callee.builtin Builtin.append, args := #[s, x], argTypes := #[t, t] })
    {v1 v2 v' : Value} {w' : World} (hs : a.eval s = v1) (hx : a.eval x = v2) (hrun : (Builtin.append_ #[t, t] o.type #[v1, v2]).run P w = .ok v' w') (h : K (a.put o.dst v') w') : o.wp P a w K Q := by
  unfold Oper.wp
  simp [execOp, hop, resolve, invoke, builtin, hs, hx, hrun, Result.andThen]
  exact h
theorem app_list {ops : Array Oper} {rest : List Oper} {o : Oper} {a : Act} {Q : Exit → Act → World → Prop} (hg : o.guard = none) (s x : Operand) (t : TypeId) (hop : o.op = Op.call { callee := Callee.builtin Builtin.append, args := #[s, x], argTypes := #[t, t] })
    {v1 v2 v' : Value} {w' : World} (hs : a.eval s = v1) (hx : a.eval x = v2) (hrun : (Builtin.append_ #[t, t] o.type #[v1, v2]).run P w = .ok v' w') (h : wpList P ops Q rest (a.put o.dst v') w') : wpList P ops Q (o :: rest) a w :=
  wpList_plain hg fun K hK' => app_at w s x t hop hs hx hrun (hK' _ _ h)
end
theorem Only.below {B : Nat} {e : TypeId} {w w' : World} (h : Only B e w w') (hB : B ≤ w.heap.size) : Below B w w' :=
  ⟨h.os, h.tape, h.output, h.size, fun i hi => h.old (Nat.lt_of_lt_of_le hi hB) hi⟩
theorem grown_below {w w' : World} (h : w.grownBy w' none) : Below w.heap.size w w' := ⟨h.os, h.tape, h.output, h.size, fun i hi => h.block i hi (by simp)⟩
/-! ### The document's lane -/
structure Ms where
  q : Int
  is : Int
  laid : Bool
  n : Int
  g : Int
  x : Int
  y : Int
def aMs (m : Ms) : Array Value := #[.int .u64 m.q, .int .i64 m.is, .bool m.laid, .int .i64 m.n, .int .u64 m.g, .int .i64 m.x, .int .i64 m.y]
def fM (l : List Ms) : List Value := l.flatMap (fun m => (aMs m).toList)
theorem fM_cons (m : Ms) (l : List Ms) : fM (m :: l) = (aMs m).toList ++ fM l := by unfold fM; rw [List.flatMap_cons]
theorem fM_append (a b : List Ms) : fM (a ++ b) = fM a ++ fM b := by unfold fM; rw [List.flatMap_append]
theorem fM_one (m : Ms) : fM [m] = (aMs m).toList := by unfold fM; rw [List.flatMap_cons]; rfl
theorem fM_len : ∀ l, (fM l).length = l.length * 7
  | [] => rfl
  | m :: l => by rw [fM_cons, List.length_append, fM_len l, List.length_cons, show (aMs m).toList.length = 7 from rfl]; omega
theorem fM_oneC (l : List Ms) : ∀ u ∈ fM l, u.oneCell' = true := by
  intro u hu
  unfold fM at hu
  obtain ⟨m, _, hm⟩ := List.mem_flatMap.1 hu
  unfold aMs at hm
  simp only [List.mem_cons, List.not_mem_nil, or_false] at hm
  rcases hm with rfl | rfl | rfl | rfl | rfl | rfl | rfl <;> rfl
theorem fM_get : ∀ (l : List Ms) (i : Nat) (m : Ms), l[i]? = some m → ∀ j, j < 7 → (fM l)[i * 7 + j]? = (aMs m)[j]?
  | [], i, m, h => by simp at h
  | x :: l, 0, m, h => by
    simp at h
    subst h
    intro j hj
    rw [fM_cons, List.getElem?_append_left (by rw [show (aMs x).toList.length = 7 from rfl]; omega), Nat.zero_mul, Nat.zero_add, Array.getElem?_toList]
  | x :: l, i + 1, m, h => by
    intro j hj
    have ih := fM_get l i m (by simpa using h) j hj
    rw [fM_cons, List.getElem?_append_right (by rw [show (aMs x).toList.length = 7 from rfl]; omega), show (i + 1) * 7 + j - (aMs x).toList.length = i * 7 + j by rw [show (aMs x).toList.length = 7 from rfl]; omega]
    exact ih
theorem fM_other : ∀ (l : List Ms) (K : Nat) (p : Ms) (j : Nat), j < K * 7 ∨ K * 7 + 7 ≤ j → (fM (l.set K p))[j]? = (fM l)[j]?
  | [], K, p, j, h => by simp
  | x :: l, 0, p, j, h => by
    rw [List.set_cons_zero, fM_cons, fM_cons, List.getElem?_append_right (by rw [show (aMs p).toList.length = 7 from rfl]; omega), List.getElem?_append_right (by rw [show (aMs x).toList.length = 7 from rfl]; omega)]
    rfl
  | x :: l, K + 1, p, j, h => by
    rw [List.set_cons_succ, fM_cons, fM_cons]
    rcases Nat.lt_or_ge j 7 with hj | hj
    · rw [List.getElem?_append_left (by exact hj), List.getElem?_append_left (by exact hj)]
    · rw [List.getElem?_append_right (by exact hj), List.getElem?_append_right (by exact hj)]
      exact fM_other l K p (j - 7) (by omega)
structure RS where
  credit : Int
  two : Bool
  next : Int
  epoch : Int
  L : List Ms
def rC (r : RS) (v : Value) : Array Value := #[.int .i64 r.credit, .bool r.two, .int .u64 r.next, .int .u64 r.epoch, v]
/-- The document's lane at block rb, its row of messages in a block from B on. -/
structure RL (w : World) (rb B : Nat) (r : RS) (v : Value) : Prop where
  blk : w.heap[rb]? = some (.cells (rC r v) 76 (0, 0))
  row : RowQ w B 81 7 v r.L.length (fM r.L)
  lt : rb < B
  sz : B ≤ w.heap.size
  len : r.L.length ≤ 64 ∧ r.credit ≤ 64
theorem RL.rb {w : World} {rb B : Nat} {r : RS} {v : Value} (h : RL w rb B r v) : rb < w.heap.size := Nat.lt_of_lt_of_le h.lt h.sz
theorem RL.below {w w' : World} {rb B : Nat} {r : RS} {v : Value} (h : RL w rb B r v) (j : Below w.heap.size w w') : RL w' rb B r v :=
  ⟨obj_below j h.blk, h.row.below j, h.lt, Nat.le_trans h.sz j.size, h.len⟩
theorem RL.far {w w' : World} {rb B b m : Nat} {r : RS} {v : Value} (h : RL w rb B r v) (j : Far b m w w') (h1 : rb ≠ b) (h2 : rb ≠ m) (h3 : b < B) (h4 : m < B) : RL w' rb B r v :=
  ⟨(j.block rb h.rb h1 h2).trans h.blk, h.row.of (fun g _ hg hw => j.block g (Array.getElem?_eq_some_iff.1 hw).1 (by omega) (by omega)), h.lt, Nat.le_trans h.sz j.size, h.len⟩
theorem RL.cells {w : World} {rb B : Nat} {r : RS} {v : Value} (h : RL w rb B r v) : w.cell? ⟨rb, 0, none⟩ = some (.int .i64 r.credit) ∧ w.cell? ⟨rb, 1, none⟩ = some (.bool r.two) ∧ w.cell? ⟨rb, 2, none⟩ = some (.int .u64 r.next) ∧ w.cell? ⟨rb, 3, none⟩ = some (.int .u64 r.epoch) ∧ w.cell? ⟨rb, 4, none⟩ = some v := by
  have := h.blk
  refine ⟨?_, ?_, ?_, ?_, ?_⟩ <;> (simp only [World.cell?, this]; rfl)
theorem RL.frozen {w : World} {rb B : Nat} {r : RS} {v : Value} (h : RL w rb B r v) (k : Nat) : w.frozen? ⟨rb, k, none⟩ = false := by
  have := h.blk
  simp [World.frozen?, this]
theorem RL.form {w : World} {rb B : Nat} {r : RS} {v : Value} (h : RL w rb B r v) : ∃ A c, v = .slice A r.L.length c ∧ r.L.length ≤ c := h.row.form
/-- A message of the row. -/
theorem RL.msg {w : World} {rb B n c : Nat} {r : RS} {A : Option Addr} (h : RL w rb B r (.slice A n c)) {i : Nat} {m : Ms} (hm : r.L[i]? = some m) : ∃ g o, A = some ⟨g, o, none⟩ ∧
    (w.cell? ⟨g, o + i * 7, none⟩ = some (.int .u64 m.q) ∧ w.cell? ⟨g, o + i * 7 + 1, none⟩ = some (.int .i64 m.is) ∧ w.cell? ⟨g, o + i * 7 + 2, none⟩ = some (.bool m.laid) ∧ w.cell? ⟨g, o + i * 7 + 3, none⟩ = some (.int .i64 m.n) ∧ w.cell? ⟨g, o + i * 7 + 4, none⟩ = some (.int .u64 m.g) ∧ w.cell? ⟨g, o + i * 7 + 5, none⟩ = some (.int .i64 m.x) ∧ w.cell? ⟨g, o + i * 7 + 6, none⟩ = some (.int .i64 m.y)) := by
  have hi := (List.getElem?_eq_some_iff.1 hm).1
  obtain ⟨g, o, cap, cur, hv, q1, q2, q3, q4, q5⟩ := h.row.lies (by omega)
  injection hv with e1 e2 e3
  subst e1
  have hg := fM_get r.L i m hm
  have key : ∀ j u, j < 7 → (aMs m)[j]? = some u → w.cell? ⟨g, o + i * 7 + j, none⟩ = some u := fun j u hj hu => by
    simp only [World.cell?, q2]
    rw [Nat.add_assoc]
    exact q5 _ _ ((hg j hj).trans hu)
  exact ⟨g, o, rfl, key 0 _ (by omega) rfl, key 1 _ (by omega) rfl, key 2 _ (by omega) rfl, key 3 _ (by omega) rfl, key 4 _ (by omega) rfl, key 5 _ (by omega) rfl, key 6 _ (by omega) rfl⟩
end Go.Proofs.Ytglekbbdbnpohaa.QLn
