/- Lane: LaneQueue: the plain law; the law's two rows. -/
import Derived.Test.YtglekbbdbnpohaaHRLn
import Derived.Test.YtglekbbdbnpohaaF2Ln
namespace Go.Proofs.Ytglekbbdbnpohaa.QLn
open Go.RowKit Go.Proofs.YtglekbbdbnpohaaW.PrintWords Go.Proofs.YtglekbbdbnpohaaW.PrintLast Go.Proofs.YtglekbbdbnpohaaW.PrintMore
set_option linter.unusedVariables false
set_option linter.unusedSimpArgs false
/-! ### The plain law -/
/-- The tickets that are not taken, in their order. -/
def tsOf (a : AS) : List (Int × Int) := (List.range (a.P.length + a.C.length)).map (fun i => (ab a.start (a.head + i), (a.epoch : Int)))
/-- The slots that were laid last. -/
def ssOf (a : AS) : List (Int × Int) := a.P.map (fun e => (e.n, e.g)) ++ a.C.map (fun c => (c.n, c.g))
theorem ts_len (a : AS) : (tsOf a).length = a.P.length + a.C.length := by unfold tsOf; rw [List.length_map, List.length_range]
theorem ss_len (a : AS) : (ssOf a).length = a.P.length + a.C.length := by unfold ssOf; rw [List.length_append, List.length_map, List.length_map]
theorem ts_get {a : AS} {i : Nat} (h : i < a.P.length + a.C.length) : (tsOf a)[i]? = some (ab a.start (a.head + i), (a.epoch : Int)) := by
  unfold tsOf
  rw [List.getElem?_map, List.getElem?_range h]
  rfl
theorem ts_same {a a' : AS} (h1 : a'.P.length + a'.C.length = a.P.length + a.C.length) (h2 : a'.start = a.start) (h3 : a'.head = a.head) (h4 : a'.epoch = a.epoch) : tsOf a' = tsOf a := by
  unfold tsOf; rw [h1, h2, h3, h4]
theorem q_new (n : Nat) (two : Bool) (st : Int) : tsOf (newA n two st) = [] ∧ ssOf (newA n two st) = [] := ⟨rfl, rfl⟩
theorem q_claim (a : AS) : tsOf (claimA a) = tsOf a ++ [(ab a.start a.tail, (a.epoch : Int))] ∧ ssOf (claimA a) = ssOf a ++ [(0, 0)] := by
  constructor
  · unfold tsOf
    show (List.range (a.P.length + (a.C ++ [(⟨false, 0, 0⟩ : Clm)]).length)).map _ = _
    rw [List.length_append, show a.P.length + (a.C.length + [(⟨false, 0, 0⟩ : Clm)].length) = (a.P.length + a.C.length) + 1 from rfl, List.range_succ, List.map_append]
    have e : a.head + (a.P.length + a.C.length) = a.tail := by unfold AS.tail AS.ready; omega
    rw [← e]
    rfl
  · unfold ssOf
    show a.P.map _ ++ (a.C ++ [(⟨false, 0, 0⟩ : Clm)]).map _ = _
    rw [List.map_append, List.append_assoc]
    rfl
theorem q_pub (a : AS) (q ep x y : Int) : tsOf (pubR a q ep x y).1 = tsOf a ∧ ssOf (pubR a q ep x y).1 = ssOf a := by
  unfold pubR
  by_cases hc : ep = a.epoch ∧ inC a (off a.start q) = true
  · rw [if_pos hc]
    cases hg : a.C[off a.start q - a.ready]? with
    | none => exact ⟨rfl, rfl⟩
    | some c =>
      simp only
      by_cases hl : c.laid = false
      · rw [if_pos hl]; exact ⟨rfl, rfl⟩
      · rw [if_neg hl]
        by_cases h0 : off a.start q ≠ a.ready
        · rw [if_pos h0]; exact ⟨rfl, rfl⟩
        · rw [if_neg h0]
          have hz : off a.start q - a.ready = 0 := by omega
          rw [hz] at hg
          cases hC : a.C with
          | nil => rw [hC] at hg; simp at hg
          | cons c0 C =>
            rw [hC] at hg
            have hcc : c0 = c := by simpa using hg
            subst hcc
            refine ⟨ts_same ?_ rfl rfl rfl, ?_⟩
            · show (a.P ++ [(⟨3, c0.n, c0.g, x, y⟩ : Ent)]).length + C.length = _
              rw [hC, List.length_append]; simp; omega
            · unfold ssOf
              show (a.P ++ [(⟨3, c0.n, c0.g, x, y⟩ : Ent)]).map _ ++ C.map _ = _
              rw [hC, List.map_append, List.append_assoc]
              rfl
  · rw [if_neg hc]; exact ⟨rfl, rfl⟩
theorem q_ret (a : AS) (q ep : Int) : tsOf (retR a q ep).1 = tsOf a ∧ ssOf (retR a q ep).1 = ssOf a := by
  unfold retR
  by_cases he : ep ≠ a.epoch
  · rw [if_pos he]; exact ⟨rfl, rfl⟩
  · rw [if_neg he]
    cases hf : findA a.A (off a.start q) with
    | none => exact ⟨rfl, rfl⟩
    | some p =>
      simp only
      by_cases hh : p.held = true
      · rw [if_pos hh]; exact ⟨rfl, rfl⟩
      · rw [if_neg hh]
        by_cases ht : a.two = true
        · rw [if_pos ht]; exact ⟨rfl, rfl⟩
        · rw [if_neg ht]; exact ⟨rfl, rfl⟩
theorem q_take {a : AS} {e : Ent} {P : List Ent} (hP : a.P = e :: P) : takeR a = (takeA a e P, .tuple #[.agg (aSlot e.n e.g), .agg (aTick (ab a.start a.head) a.epoch), .int .i64 0]) ∧ tsOf a = (ab a.start a.head, (a.epoch : Int)) :: tsOf (takeA a e P) ∧ ssOf a = (e.n, e.g) :: ssOf (takeA a e P) := by
  refine ⟨by unfold takeR; rw [hP], ?_, ?_⟩
  · unfold tsOf
    show _ = _ :: (List.range (P.length + a.C.length)).map (fun i => (ab a.start (a.head + 1 + i), (a.epoch : Int)))
    rw [hP, show (e :: P).length + a.C.length = (P.length + a.C.length) + 1 by simp; omega, List.range_succ_eq_map, List.map_cons, List.map_map]
    refine List.cons_eq_cons.2 ⟨rfl, List.map_congr_left (fun i _ => ?_)⟩
    show (ab a.start (a.head + (i + 1)), _) = _
    rw [show a.head + (i + 1) = a.head + 1 + i by omega]
  · unfold ssOf
    rw [hP]
    rfl
theorem q_take0 {a : AS} (hP : a.P = []) : takeR a = (a, .tuple #[.agg (aSlot 0 0), .agg (aTick 0 0), .int .i64 82]) := by unfold takeR; rw [hP]
theorem q_reset {a : AS} (hC : a.C = []) : resetR a = (resetA a, 0) ∧ tsOf (resetA a) = [] ∧ ssOf (resetA a) = [] := ⟨by unfold resetR; rw [if_pos hC], rfl, rfl⟩
theorem q_reset0 {a : AS} (hC : a.C ≠ []) : resetR a = (a, 84) := by unfold resetR; rw [if_neg hC]
/-- A slot that is laid turns just the place of its ticket. -/
theorem q_lay (a : AS) (ht : a.tail < 1000000) {q : Int} (hq : U64 q) (ep n g : Int) : ∃ (er : Int) (K : Nat), (layR a q ep n g).2 = er ∧ tsOf (layR a q ep n g).1 = tsOf a ∧ ssOf (layR a q ep n g).1 = (ssOf a).set K (n, g) ∧
    ∀ i, i < (tsOf a).length → (er = 0 ∧ (tsOf a)[i]? = some (q, ep) ↔ i = K) := by
  unfold layR
  by_cases hc : ep = a.epoch ∧ inC a (off a.start q) = true
  · rw [if_pos hc]
    have hi := hc.2
    unfold inC at hi
    rw [decide_eq_true_iff] at hi
    have hlt : off a.start q - a.ready < a.C.length := by unfold AS.tail at hi; omega
    refine ⟨0, a.P.length + (off a.start q - a.ready), rfl, ts_same ?_ rfl rfl rfl, ?_, fun i hil => ?_⟩
    · show a.P.length + (a.C.set _ _).length = _
      rw [List.length_set]
    · unfold ssOf
      show a.P.map _ ++ (a.C.set (off a.start q - a.ready) (⟨true, n, g⟩ : Clm)).map _ = _
      rw [List.map_set, List.set_append_right _ _ (by rw [List.length_map]; omega), List.length_map, Nat.add_sub_cancel_left]
    · rw [ts_len] at hil
      rw [ts_get hil]
      constructor
      · rintro ⟨_, h⟩
        have h1 : ab a.start (a.head + i) = q := by
          have := Option.some.inj h
          exact congrArg Prod.fst this
        have h2 : off a.start q = a.head + i := by rw [← h1]; exact off_ab (by unfold AS.tail AS.ready at ht; omega)
        rw [h2]; unfold AS.ready; unfold AS.ready at hi; omega
      · intro h
        refine ⟨rfl, ?_⟩
        have h2 : a.head + i = off a.start q := by unfold AS.ready at h hi; omega
        rw [h2, ab_off hq, hc.1]
  · rw [if_neg hc]
    refine ⟨82, (ssOf a).length, rfl, rfl, (List.set_eq_of_length_le (Nat.le_refl _)).symm, fun i hil => ?_⟩
    rw [ts_len] at hil
    rw [ss_len]
    constructor
    · rintro ⟨h, _⟩; omega
    · intro h; omega
/-! ### The rows -/
def fQ (l : List (Int × Int)) : List Value := l.flatMap (fun p => [.int .i64 p.1, .int .u64 p.2])
theorem fQ_len : ∀ l, (fQ l).length = l.length * 2
  | [] => rfl
  | x :: l => by
    have ih := fQ_len l
    unfold fQ at *
    rw [List.flatMap_cons, List.length_append, ih]
    simp; omega
theorem fQ_append (l : List (Int × Int)) (p : Int × Int) : fQ (l ++ [p]) = fQ l ++ [.int .i64 p.1, .int .u64 p.2] := by
  unfold fQ; rw [List.flatMap_append]; rfl
theorem fQ_cons (p : Int × Int) (l : List (Int × Int)) : fQ (p :: l) = [.int .i64 p.1, .int .u64 p.2] ++ fQ l := by
  unfold fQ; rw [List.flatMap_cons]
theorem fT_cons (p : Int × Int) (l : List (Int × Int)) : fT (p :: l) = [.int .u64 p.1, .int .u64 p.2] ++ fT l := by
  unfold fT; rw [List.flatMap_cons]
theorem fQ_get : ∀ (l : List (Int × Int)) (i : Nat) (p : Int × Int), l[i]? = some p → (fQ l)[i * 2]? = some (.int .i64 p.1) ∧ (fQ l)[i * 2 + 1]? = some (.int .u64 p.2)
  | [], i, p, h => by simp at h
  | x :: l, 0, p, h => by
    simp at h
    subst h
    exact ⟨rfl, rfl⟩
  | x :: l, i + 1, p, h => by
    have ih := fQ_get l i p (by simpa using h)
    rw [fQ_cons, List.getElem?_append_right (by simp; omega), List.getElem?_append_right (by simp; omega)]
    rw [show (i + 1) * 2 - [Value.int .i64 x.1, Value.int .u64 x.2].length = i * 2 by simp; omega, show (i + 1) * 2 + 1 - [Value.int .i64 x.1, Value.int .u64 x.2].length = i * 2 + 1 by simp; omega]
    exact ih
theorem fQ_other : ∀ (l : List (Int × Int)) (K : Nat) (p : Int × Int) (j : Nat), j < K * 2 ∨ K * 2 + 2 ≤ j → (fQ (l.set K p))[j]? = (fQ l)[j]?
  | [], K, p, j, h => by simp
  | x :: l, 0, p, j, h => by
    rw [List.set_cons_zero, fQ_cons, fQ_cons, List.getElem?_append_right (by simp; omega), List.getElem?_append_right (by simp; omega)]
    rfl
  | x :: l, K + 1, p, j, h => by
    rw [List.set_cons_succ, fQ_cons, fQ_cons]
    rcases Nat.lt_or_ge j 2 with hj | hj
    · rw [List.getElem?_append_left (by simpa using hj), List.getElem?_append_left (by simpa using hj)]
    · rw [List.getElem?_append_right (by simpa using hj), List.getElem?_append_right (by simpa using hj)]
      exact fQ_other l K p (j - 2) (by omega)
/-- What LaneQueue knows: a lane, its own boxes, a row of tickets and a row of slots in blocks of their own from B on. -/
structure Qw (w0 : World) (b mb : Nat) (a : AS) (k B : Nat) (v : Value) (ts : List (Int × Int)) (u : Value) (ss : List (Int × Int)) (L : List (Nat × Obj)) (w : World) : Prop where
  aw : Aw w0 b mb a k L w
  lt : b < B ∧ mb < B ∧ w0.heap.size ≤ B
  ro : RowQ w B 34 2 v ts.length (fT ts)
  rs : RowQ w B 36 2 u ss.length (fQ ss)
  sz : B ≤ w.heap.size
section
variable {w0 w w' : World} {b mb : Nat} {a a' : AS} {k k' B : Nat} {v v' u u' : Value} {ts ss : List (Int × Int)} {L L' : List (Nat × Obj)}
theorem Qw.below (h : Qw w0 b mb a k B v ts u ss L w) (j : Below w.heap.size w w') : Qw w0 b mb a k B v ts u ss L w' :=
  ⟨h.aw.below j, h.lt, h.ro.below j, h.rs.below j, Nat.le_trans h.sz j.size⟩
theorem Qw.alloc (h : Qw w0 b mb a k B v ts u ss L w) (o : Obj) : Qw w0 b mb a k B v ts u ss ((w.heap.size, o) :: L) (w.alloc o) :=
  have j := (Below.refl _ w).alloc (Nat.le_refl _) o
  ⟨h.aw.alloc o, h.lt, h.ro.below j, h.rs.below j, Nat.le_trans h.sz j.size⟩
theorem Qw.alloc2 (h : Qw w0 b mb a k B v ts u ss L w) (o o' : Obj) : Qw w0 b mb a k B v ts u ss ((w.heap.size + 1, o') :: (w.heap.size, o) :: L) ((w.alloc o).alloc o') := by
  have e : (w.alloc o).heap.size = w.heap.size + 1 := by show (w.heap.push o).size = _; rw [Array.size_push]
  have h1 := (h.alloc o).alloc o'
  rw [e] at h1
  exact h1
theorem Qw.call (h : Qw w0 b mb a k B v ts u ss L w) (hl : LnA w' b mb a' k') (j : Far b mb w w') : Qw w0 b mb a' k' B v ts u ss L w' :=
  ⟨h.aw.call hl j, h.lt, h.ro.of (fun g _ hg hw => j.block g (Array.getElem?_eq_some_iff.1 hw).1 (by have := h.lt; omega) (by have := h.lt; omega)), h.rs.of (fun g _ hg hw => j.block g (Array.getElem?_eq_some_iff.1 hw).1 (by have := h.lt; omega) (by have := h.lt; omega)), Nat.le_trans h.sz j.size⟩
theorem Qw.sub (h : Qw w0 b mb a k B v ts u ss L w) (hs : ∀ p ∈ L', p ∈ L) : Qw w0 b mb a k B v ts u ss L' w :=
  ⟨⟨h.aw.ln, h.aw.be, h.aw.hb, h.aw.hm, fun p hp => h.aw.obj p (hs p hp)⟩, h.lt, h.ro, h.rs, h.sz⟩
theorem Qw.mono (h : Qw w0 b mb a k B v ts u ss L w) (hk : k ≤ k') : Qw w0 b mb a k' B v ts u ss L w := ⟨⟨h.aw.ln.mono hk, h.aw.be, h.aw.hb, h.aw.hm, h.aw.obj⟩, h.lt, h.ro, h.rs, h.sz⟩
theorem Qw.only {e : TypeId} (h : Qw w0 b mb a k B v ts u ss L w) (ho : Only B e w w') : Aw w0 b mb a k [] w' ∧ B ≤ w'.heap.size := by
  have hrow : ∀ i, i < w.heap.size → i < B → w'.heap[i]? = w.heap[i]? := fun i hi hB => ho.old hi hB
  have hlt := h.aw.ln.lt
  refine ⟨⟨?_, ?_, h.aw.hb, h.aw.hm, fun p hp => by cases hp⟩, Nat.le_trans h.sz ho.size⟩
  · obtain ⟨s, hs, hm, hr⟩ := h.aw.ln
    exact ⟨s, hs.of (hrow b hlt.1 h.lt.1) (by rw [hm]; exact hrow mb hlt.2.1 h.lt.2.1), hm, hr⟩
  · exact h.aw.be.trans ⟨ho.os, ho.tape, ho.output, ho.size, fun i hi => hrow i (Nat.lt_of_lt_of_le hi h.aw.be.size) (Nat.lt_of_lt_of_le hi h.lt.2.2)⟩
theorem Qw.out (h : Qw w0 b mb a k B v ts u ss L w) {q ep : Int} (ho : Only B 34 w w') (hr : RowQ w' B 34 2 v' (ts.length + 1) (fT ts ++ [.int .u64 q, .int .u64 ep])) : Qw w0 b mb a k B v' (ts ++ [(q, ep)]) u ss [] w' := by
  obtain ⟨h1, h2⟩ := h.only ho
  refine ⟨h1, h.lt, ?_, h.rs.only ho (by decide), h2⟩
  rw [List.length_append, fT_append]
  exact hr
theorem Qw.slots (h : Qw w0 b mb a k B v ts u ss L w) {n g : Int} (ho : Only B 36 w w') (hr : RowQ w' B 36 2 u' (ss.length + 1) (fQ ss ++ [.int .i64 n, .int .u64 g])) : Qw w0 b mb a k B v ts u' (ss ++ [(n, g)]) [] w' := by
  obtain ⟨h1, h2⟩ := h.only ho
  refine ⟨h1, h.lt, h.ro.only ho (by decide), ?_, h2⟩
  rw [List.length_append, fQ_append]
  exact hr
theorem Qw.nil (h : Qw w0 b mb a k B v ts u ss L w) : Qw w0 b mb a k B (.slice none 0 0) [] (.slice none 0 0) [] L w := ⟨h.aw, h.lt, RowQ.nil _ _ _ _, RowQ.nil _ _ _ _, h.sz⟩
/-- Where a ticket of the row lies. -/
theorem Qw.tick {A : Option Addr} {n c : Nat} (h : Qw w0 b mb a k B (.slice A n c) ts u ss L w) {i : Nat} {p : Int × Int} (hp : ts[i]? = some p) : ∃ g o, A = some ⟨g, o, none⟩ ∧ w.cell? ⟨g, o + i * 2, none⟩ = some (.int .u64 p.1) ∧ w.cell? ⟨g, o + i * 2 + 1, none⟩ = some (.int .u64 p.2) := by
  have hi := (List.getElem?_eq_some_iff.1 hp).1
  obtain ⟨g, o, cap, cur, hv, q1, q2, q3, q4, q5⟩ := h.ro.lies (by omega)
  injection hv with e1 e2 e3
  subst e1
  obtain ⟨f1, f2⟩ := fT_get ts i p hp
  refine ⟨g, o, rfl, ?_, ?_⟩ <;> simp only [World.cell?, q2]
  · exact q5 _ _ f1
  · exact q5 _ _ f2
theorem Qw.slot {A : Option Addr} {n c : Nat} (h : Qw w0 b mb a k B v ts (.slice A n c) ss L w) {i : Nat} {p : Int × Int} (hp : ss[i]? = some p) : ∃ g o cur, A = some ⟨g, o, none⟩ ∧ w.heap[g]? = some (.cells cur 36 (0, 0)) ∧ o + i * 2 + 2 ≤ cur.size ∧ w.cell? ⟨g, o + i * 2, none⟩ = some (.int .i64 p.1) ∧ w.cell? ⟨g, o + i * 2 + 1, none⟩ = some (.int .u64 p.2) ∧
    ∀ n' g' : Int, Qw w0 b mb a k B v ts (.slice A n c) (ss.set i (n', g')) [] (w.setCells g (o + i * 2) [.int .i64 n', .int .u64 g']) := by
  have hi := (List.getElem?_eq_some_iff.1 hp).1
  obtain ⟨g, o, cap, cur, hv, q1, q2, q3, q4, q5⟩ := h.rs.lies (by omega)
  injection hv with e1 e2 e3
  subst e1 e3
  obtain ⟨f1, f2⟩ := fQ_get ss i p hp
  refine ⟨g, o, cur, rfl, q2, by omega, ?_, ?_, fun n' g' => ?_⟩
  · simp only [World.cell?, q2]; exact q5 _ _ f1
  · simp only [World.cell?, q2]; exact q5 _ _ f2
  · have ho : Only B 36 w (w.setCells g (o + i * 2) [.int .i64 n', .int .u64 g']) := Only.set q1 q2 _ _
    obtain ⟨h1, h2⟩ := h.only ho
    refine ⟨h1, h.lt, h.ro.only ho (by decide), ?_, h2⟩
    rw [List.length_set, e2]
    have hg : (ss.set i (n', g'))[i]? = some (n', g') := by rw [List.getElem?_set_self hi]
    obtain ⟨k1, k2⟩ := fQ_get _ i _ hg
    refine RowQ.set h.rs.1 (by omega) q1 q2 q3 q4 q5 i hi _ rfl _ (by rw [fQ_len, fQ_len, List.length_set]) (fun j hj => ?_) (fun j hj => fQ_other ss i _ j hj)
    rcases Nat.lt_or_ge j 1 with h0 | h0
    · have : j = 0 := by omega
      subst this
      exact k1
    · have : j = 1 := by omega
      subst this
      exact k2
theorem Qw.forms (h : Qw w0 b mb a k B v ts u ss L w) : ∃ A c A' c', v = .slice A ts.length c ∧ u = .slice A' ss.length c' ∧ ts.length ≤ c ∧ ss.length ≤ c' := by
  obtain ⟨A, c, e1, e2⟩ := h.ro.form
  obtain ⟨A', c', e3, e4⟩ := h.rs.form
  exact ⟨A, c, A', c', e1, e3, e2, e4⟩
/-- Both rows without their first. -/
theorem Qw.tails {p s : Int × Int} {g o c g' o' c' n m : Nat} (h : Qw w0 b mb a k B (.slice (some ⟨g, o, none⟩) n c) (p :: ts) (.slice (some ⟨g', o', none⟩) m c') (s :: ss) L w) :
    Qw w0 b mb a k B (.slice (if c = 1 then some ⟨g, o, none⟩ else some ⟨g, o + 2, none⟩) ts.length (c - 1)) ts (.slice (if c' = 1 then some ⟨g', o', none⟩ else some ⟨g', o' + 2, none⟩) ss.length (c' - 1)) ss L w := by
  have h1 := h.ro
  have h2 := h.rs
  rw [fT_cons] at h1
  rw [fQ_cons] at h2
  have e1 : n = ts.length + 1 := by
    obtain ⟨A, c, e, _⟩ := h.ro.form
    injection e
  have e2 : m = ss.length + 1 := by
    obtain ⟨A, c, e, _⟩ := h.rs.form
    injection e
  subst e1 e2
  exact ⟨h.aw, h.lt, RowQ.tail h1 rfl, RowQ.tail h2 rfl, h.sz⟩
end
end Go.Proofs.Ytglekbbdbnpohaa.QLn
