/- Lane: LaneCredit: the plain law; a row of tickets of the law's own. -/
import Derived.Test.YtglekbbdbnpohaaA2Ln
namespace Go.Proofs.Ytglekbbdbnpohaa.QLn
open Go.RowKit Go.Proofs.YtglekbbdbnpohaaW.PrintWords Go.Proofs.YtglekbbdbnpohaaW.PrintLast Go.Proofs.YtglekbbdbnpohaaW.PrintMore
set_option linter.unusedVariables false
set_option linter.unusedSimpArgs false
/-! ### The plain law -/
structure CI (n : Nat) (a : AS) (ts : List (Int × Int)) : Prop where
  cr : a.credit = n
  laid : ∀ c ∈ a.C, c.laid = true
  inn : ∀ j, j < a.C.length → (ab a.start (a.ready + j), (a.epoch : Int)) ∈ ts
  u : ∀ p ∈ ts, U64 p.1
theorem ci_new (n : Nat) (two : Bool) (st : Int) : CI n (newA n two st) [] where
  cr := rfl
  laid := fun c h => by cases h
  inn := fun j h => by cases h
  u := fun p h => by cases h
theorem lay_new {a : AS} (h : a.tail < 1000000) (n g : Int) : layR (claimA a) (ab a.start a.tail) a.epoch n g = (layA (claimA a) a.C.length n g, 0) := by
  have e : off (claimA a).start (ab a.start a.tail) = a.tail := off_ab (by omega)
  unfold layR
  have hc : (a.epoch : Int) = (claimA a).epoch ∧ inC (claimA a) (off (claimA a).start (ab a.start a.tail)) = true := by
    refine ⟨rfl, ?_⟩
    rw [e]
    unfold inC
    refine decide_eq_true ⟨?_, ?_⟩
    · show a.ready ≤ a.tail; unfold AS.tail; omega
    · show a.tail < (claimA a).ready + (a.C ++ [(⟨false, 0, 0⟩ : Clm)]).length
      rw [List.length_append]
      show a.ready + a.C.length < a.ready + (a.C.length + 1)
      omega
  rw [if_pos hc, e, show a.tail - (claimA a).ready = a.C.length from Nat.add_sub_cancel_left ..]
theorem ci_claim {n : Nat} {a : AS} {ts : List (Int × Int)} (h : CI n a ts) (m g : Int) : CI n (layA (claimA a) a.C.length m g) (ts ++ [(ab a.start a.tail, (a.epoch : Int))]) := by
  have e : (layA (claimA a) a.C.length m g).C = a.C ++ [(⟨true, m, g⟩ : Clm)] := by
    show (a.C ++ [(⟨false, 0, 0⟩ : Clm)]).set a.C.length ⟨true, m, g⟩ = _
    rw [List.set_append_right _ _ (Nat.le_refl _), Nat.sub_self]
    rfl
  refine ⟨h.cr, fun c hc => ?_, fun j hj => ?_, fun p hp => ?_⟩
  · rw [e] at hc
    rcases List.mem_append.1 hc with hc | hc
    · exact h.laid c hc
    · simp only [List.mem_singleton] at hc; rw [hc]
  · rw [e, List.length_append] at hj
    show (ab a.start (a.ready + j), (a.epoch : Int)) ∈ _
    rcases Nat.lt_or_ge j a.C.length with hl | hl
    · exact List.mem_append_left _ (h.inn j hl)
    · have hj1 : j = a.C.length := by simp at hj; omega
      rw [hj1]
      exact List.mem_append_right _ (List.mem_singleton.2 rfl)
  · rcases List.mem_append.1 hp with hp | hp
    · exact h.u p hp
    · simp only [List.mem_singleton] at hp; rw [hp]; exact ab_u64 _ _
theorem ci_pub {n : Nat} {a : AS} {ts : List (Int × Int)} (h : CI n a ts) (q ep x y : Int) : CI n (pubR a q ep x y).1 ts := by
  unfold pubR
  by_cases hc : ep = a.epoch ∧ inC a (off a.start q) = true
  · rw [if_pos hc]
    cases hg : a.C[off a.start q - a.ready]? with
    | none => exact h
    | some c =>
      simp only
      by_cases hl : c.laid = false
      · rw [if_pos hl]; exact h
      · rw [if_neg hl]
        by_cases h0 : off a.start q ≠ a.ready
        · rw [if_pos h0]; exact h
        · rw [if_neg h0]
          refine ⟨h.cr, fun c hc => h.laid c (List.mem_of_mem_tail hc), fun j hj => ?_, h.u⟩
          have hj' : j < a.C.tail.length := hj
          rw [List.length_tail] at hj'
          have e : (pubA a c a.C.tail x y).ready = a.ready + 1 := by unfold AS.ready pubA; simp only [List.length_append]; simp; omega
          show (ab a.start ((pubA a c a.C.tail x y).ready + j), (a.epoch : Int)) ∈ ts
          rw [e, show a.ready + 1 + j = a.ready + (j + 1) by omega]
          exact h.inn (j + 1) (by omega)
  · rw [if_neg hc]; exact h
theorem ci_take {n : Nat} {a : AS} {ts : List (Int × Int)} (h : CI n a ts) : CI n (takeR a).1 ts := by
  unfold takeR
  cases hP : a.P with
  | nil => exact h
  | cons e P =>
    refine ⟨h.cr, h.laid, fun j hj => ?_, h.u⟩
    have e1 : (takeA a e P).ready = a.ready := by unfold AS.ready takeA; rw [hP]; simp; omega
    show (ab a.start ((takeA a e P).ready + j), (a.epoch : Int)) ∈ ts
    rw [e1]
    exact h.inn j hj
theorem ci_ret {n : Nat} {a : AS} {ts : List (Int × Int)} (h : CI n a ts) (q ep : Int) : CI n (retR a q ep).1 ts := by
  unfold retR
  by_cases he : ep ≠ a.epoch
  · rw [if_pos he]; exact h
  · rw [if_neg he]
    cases hf : findA a.A (off a.start q) with
    | none => exact h
    | some p =>
      simp only
      by_cases hh : p.held = true
      · rw [if_pos hh]; exact h
      · rw [if_neg hh]
        by_cases ht : a.two = true
        · rw [if_pos ht]; exact ⟨h.cr, h.laid, h.inn, h.u⟩
        · rw [if_neg ht]; exact ⟨h.cr, h.laid, h.inn, h.u⟩
theorem ci_reset {n : Nat} {a : AS} {ts : List (Int × Int)} (h : CI n a ts) : CI n (resetR a).1 ts := by
  unfold resetR
  by_cases hc : a.C = []
  · rw [if_pos hc]
    exact ⟨h.cr, fun c hc => (by cases hc), fun j hj => (by cases hj), h.u⟩
  · rw [if_neg hc]; exact h
theorem ci_ready {n : Nat} {a : AS} {ts : List (Int × Int)} (h : CI n a ts) (ht : a.tail < 1000000) (hC : a.C ≠ []) : ∃ p ∈ ts, readyR a p.1 p.2 = true := by
  cases hc : a.C with
  | nil => exact absurd hc hC
  | cons c C =>
    refine ⟨_, h.inn 0 (by rw [hc]; simp), ?_⟩
    have e : off a.start (ab a.start (a.ready + 0)) = a.ready := off_ab (by unfold AS.tail at ht; omega)
    have hl : c.laid = true := h.laid c (by rw [hc]; simp)
    unfold readyR
    simp only
    rw [e, hc]
    simp [hl]
theorem held_sum : ∀ (l : List (Nat × Past)), (l.filter (fun x => x.2.held == false)).length + (l.filter (fun x => x.2.held == true)).length = l.length
  | [] => rfl
  | x :: l => by
    have ih := held_sum l
    cases hx : x.2.held <;> simp [List.filter_cons, hx] at ih ⊢ <;> omega
theorem state_sum (a : AS) : heldN a false + heldN a true = a.A.length := held_sum a.A
theorem LnA.bnd {w : World} {b m k : Nat} {a : AS} (h : LnA w b m a k) (hk : k < 1000000) : a.tail < 1000000 ∧ a.total ≤ a.credit ∧ a.credit ≤ 64 := by
  obtain ⟨s, _, _, hr⟩ := h
  have := hr.bn.1
  exact ⟨by omega, hr.tot, hr.c64⟩
/-! ### A row of tickets of the law's own -/
def fT (l : List (Int × Int)) : List Value := l.flatMap (fun p => [.int .u64 p.1, .int .u64 p.2])
theorem fT_len : ∀ l, (fT l).length = l.length * 2
  | [] => rfl
  | x :: l => by
    have ih := fT_len l
    unfold fT at *
    rw [List.flatMap_cons, List.length_append, ih]
    simp; omega
theorem fT_append (l : List (Int × Int)) (p : Int × Int) : fT (l ++ [p]) = fT l ++ [.int .u64 p.1, .int .u64 p.2] := by
  unfold fT; rw [List.flatMap_append]; rfl
theorem fT_get : ∀ (l : List (Int × Int)) (i : Nat) (p : Int × Int), l[i]? = some p → (fT l)[i * 2]? = some (.int .u64 p.1) ∧ (fT l)[i * 2 + 1]? = some (.int .u64 p.2)
  | [], i, p, h => by simp at h
  | x :: l, 0, p, h => by
    simp at h
    subst h
    exact ⟨rfl, rfl⟩
  | x :: l, i + 1, p, h => by
    have ih := fT_get l i p (by simpa using h)
    unfold fT at *
    rw [List.flatMap_cons]
    rw [List.getElem?_append_right (by simp; omega), List.getElem?_append_right (by simp; omega)]
    rw [show (i + 1) * 2 - [Value.int .u64 x.1, Value.int .u64 x.2].length = i * 2 by simp; omega, show (i + 1) * 2 + 1 - [Value.int .u64 x.1, Value.int .u64 x.2].length = i * 2 + 1 by simp; omega]
    exact ih
def TksAt (w : World) (A : Option Addr) (l : List (Int × Int)) : Prop := ∀ (i : Nat) (p : Int × Int), l[i]? = some p → ∃ ad, A = some ad ∧ w.cell? (ad.add (i * 2)) = some (.int .u64 p.1) ∧ w.cell? ⟨(ad.add (i * 2)).block, (ad.add (i * 2)).off + 1, none⟩ = some (.int .u64 p.2)
theorem own_of {w w' : World} {B n size : Nat} {e : TypeId} {v : Value} {xs : List Value} (h : w.ownsRow B e size v n xs) (hk : ∀ g, v.ownBlock = some g → w'.heap[g]? = w.heap[g]?) : w'.ownsRow B e size v n xs := by
  obtain ⟨h1, h2⟩ := h
  refine ⟨h1, ?_⟩
  rcases h2 with h2 | ⟨g, cap, cur, rfl, q1, q2, q3⟩
  · exact Or.inl h2
  · exact Or.inr ⟨g, cap, cur, rfl, q1, (hk g rfl).trans q2, q3⟩
theorem own_reads {w : World} {B : Nat} {v : Value} {ts : List (Int × Int)} (h : w.ownsRow B 34 2 v ts.length (fT ts)) : ∃ A c, v = .slice A ts.length c ∧ ts.length ≤ c ∧ TksAt w A ts := by
  obtain ⟨h1, h2⟩ := h
  rcases h2 with ⟨rfl, h0⟩ | ⟨g, cap, cur, rfl, q1, q2, q3, q4, q5, q6⟩
  · refine ⟨none, 0, by rw [h0], by omega, fun i p hp => ?_⟩
    have := List.eq_nil_of_length_eq_zero h0
    rw [this] at hp
    simp at hp
  · refine ⟨_, cap, rfl, q3, fun i p hp => ⟨_, rfl, ?_⟩⟩
    have hown : w.ownsRow B 34 2 (.slice (some ⟨g, 0, none⟩) ts.length cap) ts.length (fT ts) := ⟨h1, Or.inr ⟨g, cap, cur, rfl, q1, q2, q3, q4, q5, q6⟩⟩
    obtain ⟨e1, e2⟩ := fT_get ts i p hp
    refine ⟨hown.cells rfl _ _ e1, ?_⟩
    rw [← add_field _ _ 1 (by omega)]
    exact hown.cells rfl _ _ e2
/-- What LaneCredit knows: a lane, its own boxes, a row of tickets in a block of its own from B on. -/
structure Cw (w0 : World) (b mb : Nat) (a : AS) (k B : Nat) (v : Value) (ts : List (Int × Int)) (L : List (Nat × Obj)) (w : World) : Prop where
  aw : Aw w0 b mb a k L w
  lt : b < B ∧ mb < B ∧ w0.heap.size ≤ B
  own : w.ownsRow B 34 2 v ts.length (fT ts)
  sz : B ≤ w.heap.size
section
variable {w0 w w' : World} {b mb : Nat} {a a' : AS} {k k' B : Nat} {v v' : Value} {ts : List (Int × Int)} {L L' : List (Nat × Obj)}
theorem Cw.below (h : Cw w0 b mb a k B v ts L w) (j : Below w.heap.size w w') : Cw w0 b mb a k B v ts L w' :=
  ⟨h.aw.below j, h.lt, own_of h.own (fun g hg => j.block g (h.own.lt g hg).2), Nat.le_trans h.sz j.size⟩
theorem Cw.alloc (h : Cw w0 b mb a k B v ts L w) (o : Obj) : Cw w0 b mb a k B v ts ((w.heap.size, o) :: L) (w.alloc o) :=
  ⟨h.aw.alloc o, h.lt, h.own.alloc o, Nat.le_trans h.sz (by show _ ≤ (w.heap.push o).size; rw [Array.size_push]; omega)⟩
theorem Cw.call (h : Cw w0 b mb a k B v ts L w) (hl : LnA w' b mb a' k') (j : Far b mb w w') : Cw w0 b mb a' k' B v ts L w' :=
  ⟨h.aw.call hl j, h.lt, own_of h.own (fun g hg => by have h1 := h.own.lt g hg; have h2 := h.lt; exact j.block g h1.2 (by omega) (by omega)), Nat.le_trans h.sz j.size⟩
theorem Cw.sub (h : Cw w0 b mb a k B v ts L w) (hs : ∀ p ∈ L', p ∈ L) : Cw w0 b mb a k B v ts L' w :=
  ⟨⟨h.aw.ln, h.aw.be, h.aw.hb, h.aw.hm, fun p hp => h.aw.obj p (hs p hp)⟩, h.lt, h.own, h.sz⟩
theorem Cw.mono (h : Cw w0 b mb a k B v ts L w) (hk : k ≤ k') : Cw w0 b mb a k' B v ts L w := ⟨⟨h.aw.ln.mono hk, h.aw.be, h.aw.hb, h.aw.hm, h.aw.obj⟩, h.lt, h.own, h.sz⟩
theorem Cw.app (h : Cw w0 b mb a k B v ts L w) {q ep : Int} (hg : w.grownBy w' v.ownBlock) (ho : w'.ownsRow B 34 2 v' (ts.length + 1) (fT ts ++ [.int .u64 q, .int .u64 ep])) : Cw w0 b mb a k B v' (ts ++ [(q, ep)]) [] w' := by
  have hrow : ∀ i, i < w.heap.size → i < B → w'.heap[i]? = w.heap[i]? := fun i hi hB => hg.block i hi (fun e => by have := (h.own.lt i e.symm).1; omega)
  have hlt := h.aw.ln.lt
  refine ⟨⟨?_, ?_, h.aw.hb, h.aw.hm, fun p hp => by cases hp⟩, h.lt, ?_, Nat.le_trans h.sz hg.size⟩
  · obtain ⟨s, hs, hm, hr⟩ := h.aw.ln
    exact ⟨s, hs.of (hrow b hlt.1 h.lt.1) (by rw [hm]; exact hrow mb hlt.2.1 h.lt.2.1), hm, hr⟩
  · exact h.aw.be.trans ⟨hg.os, hg.tape, hg.output, hg.size, fun i hi => hrow i (Nat.lt_of_lt_of_le hi h.aw.be.size) (Nat.lt_of_lt_of_le hi h.lt.2.2)⟩
  · rw [List.length_append, fT_append]
    exact ho
theorem Cw.reads (h : Cw w0 b mb a k B v ts L w) : ∃ A c, v = .slice A ts.length c ∧ ts.length ≤ c ∧ TksAt w A ts := own_reads h.own
end
end Go.Proofs.Ytglekbbdbnpohaa.QLn
