/- Agenda: the document's agenda in memory. Written by a program of this repo (tools/gen_ag9.py, out of chapter 08's own texts). -/
import Derived.Test.YthjppjcmapgkpaaCCAg
namespace Go.Proofs.Ythjppjcmapgkpaa.QAg
open Go.RowKit Go.Proofs.YthjppjcmapgkpaaW.PrintWords Go.Proofs.YthjppjcmapgkpaaW.PrintLast Go.Proofs.YthjppjcmapgkpaaW.PrintMore
set_option linter.unusedVariables false
set_option linter.unusedSimpArgs false
def aMs (m : En) : Array Value := #[.int .i8 m.key, .int .i64 m.mark, .int .i64 m.id]
def fM (l : List En) : List Value := l.flatMap (fun m => (aMs m).toList)
theorem fM_cons (m : En) (l : List En) : fM (m :: l) = (aMs m).toList ++ fM l := by unfold fM; rw [List.flatMap_cons]
theorem fM_append (a b : List En) : fM (a ++ b) = fM a ++ fM b := by unfold fM; rw [List.flatMap_append]
theorem fM_one (m : En) : fM [m] = (aMs m).toList := by unfold fM; rw [List.flatMap_cons]; rfl
theorem fM_len : ∀ l, (fM l).length = l.length * 3
  | [] => rfl
  | m :: l => by rw [fM_cons, List.length_append, fM_len l, List.length_cons, show (aMs m).toList.length = 3 from rfl]; omega
theorem fM_oneC (l : List En) : ∀ u ∈ fM l, u.oneCell' = true := by
  intro u hu
  unfold fM at hu
  obtain ⟨m, _, hm⟩ := List.mem_flatMap.1 hu
  unfold aMs at hm
  simp only [List.mem_cons, List.not_mem_nil, or_false] at hm
  rcases hm with rfl | rfl | rfl <;> rfl
theorem fM_get : ∀ (l : List En) (i : Nat) (m : En), l[i]? = some m → ∀ j, j < 3 → (fM l)[i * 3 + j]? = (aMs m)[j]?
  | [], i, m, h => by simp at h
  | x :: l, 0, m, h => by
    simp at h
    subst h
    intro j hj
    rw [fM_cons, List.getElem?_append_left (by rw [show (aMs x).toList.length = 3 from rfl]; omega), Nat.zero_mul, Nat.zero_add, Array.getElem?_toList]
  | x :: l, i + 1, m, h => by
    intro j hj
    have ih := fM_get l i m (by simpa using h) j hj
    rw [fM_cons, List.getElem?_append_right (by rw [show (aMs x).toList.length = 3 from rfl]; omega), show (i + 1) * 3 + j - (aMs x).toList.length = i * 3 + j by rw [show (aMs x).toList.length = 3 from rfl]; omega]
    exact ih
theorem fM_other : ∀ (l : List En) (K : Nat) (p : En) (j : Nat), j < K * 3 ∨ K * 3 + 3 ≤ j → (fM (l.set K p))[j]? = (fM l)[j]?
  | [], K, p, j, h => by simp
  | x :: l, 0, p, j, h => by
    rw [List.set_cons_zero, fM_cons, fM_cons, List.getElem?_append_right (by rw [show (aMs p).toList.length = 3 from rfl]; omega), List.getElem?_append_right (by rw [show (aMs x).toList.length = 3 from rfl]; omega)]
    rfl
  | x :: l, K + 1, p, j, h => by
    rw [List.set_cons_succ, fM_cons, fM_cons]
    rcases Nat.lt_or_ge j 3 with hj | hj
    · rw [List.getElem?_append_left (by exact hj), List.getElem?_append_left (by exact hj)]
    · rw [List.getElem?_append_right (by exact hj), List.getElem?_append_right (by exact hj)]
      exact fM_other l K p (j - 3) (by omega)
structure RS where
  last : Int
  L : List En
def rC (r : RS) (v : Value) : Array Value := #[v, .int .i64 r.last]
/-- The document's lane at block rb, its row of messages in a block from B on. -/
structure RL (w : World) (rb B : Nat) (r : RS) (v : Value) : Prop where
  blk : w.heap[rb]? = some (.cells (rC r v) 32 (0, 0))
  row : RowQ w B 40 3 v r.L.length (fM r.L)
  lt : rb < B
  sz : B ≤ w.heap.size
  len : r.L.length ≤ 100000
theorem RL.rb {w : World} {rb B : Nat} {r : RS} {v : Value} (h : RL w rb B r v) : rb < w.heap.size := Nat.lt_of_lt_of_le h.lt h.sz
theorem RL.below {w w' : World} {rb B : Nat} {r : RS} {v : Value} (h : RL w rb B r v) (j : Below w.heap.size w w') : RL w' rb B r v :=
  ⟨obj_below j h.blk, h.row.below j, h.lt, Nat.le_trans h.sz j.size, h.len⟩
theorem RL.far {w w' : World} {rb B b m : Nat} {r : RS} {v : Value} (h : RL w rb B r v) (j : Far b m w w') (h1 : rb ≠ b) (h2 : rb ≠ m) (h3 : b < B) (h4 : m < B) : RL w' rb B r v :=
  ⟨(j.block rb h.rb h1 h2).trans h.blk, h.row.of (fun g _ hg hw => j.block g (Array.getElem?_eq_some_iff.1 hw).1 (by omega) (by omega)), h.lt, Nat.le_trans h.sz j.size, h.len⟩
theorem RL.cells {w : World} {rb B : Nat} {r : RS} {v : Value} (h : RL w rb B r v) : w.cell? ⟨rb, 0, none⟩ = some v ∧ w.cell? ⟨rb, 1, none⟩ = some (.int .i64 r.last) := by
  have := h.blk
  refine ⟨?_, ?_⟩ <;> (simp only [World.cell?, this]; rfl)
theorem RL.frozen {w : World} {rb B : Nat} {r : RS} {v : Value} (h : RL w rb B r v) (k : Nat) : w.frozen? ⟨rb, k, none⟩ = false := by
  have := h.blk
  simp [World.frozen?, this]
theorem RL.form {w : World} {rb B : Nat} {r : RS} {v : Value} (h : RL w rb B r v) : ∃ A c, v = .slice A r.L.length c ∧ r.L.length ≤ c := h.row.form
/-- A message of the row. -/
theorem RL.msg {w : World} {rb B n c : Nat} {r : RS} {A : Option Addr} (h : RL w rb B r (.slice A n c)) {i : Nat} {m : En} (hm : r.L[i]? = some m) : ∃ g o, A = some ⟨g, o, none⟩ ∧
    (w.cell? ⟨g, o + i * 3, none⟩ = some (.int .i8 m.key) ∧ w.cell? ⟨g, o + i * 3 + 1, none⟩ = some (.int .i64 m.mark) ∧ w.cell? ⟨g, o + i * 3 + 2, none⟩ = some (.int .i64 m.id)) := by
  have hi := (List.getElem?_eq_some_iff.1 hm).1
  obtain ⟨g, o, cap, cur, hv, q1, q2, q3, q4, q5⟩ := h.row.lies (by omega)
  injection hv with e1 e2 e3
  subst e1
  have hg := fM_get r.L i m hm
  have key : ∀ j u, j < 3 → (aMs m)[j]? = some u → w.cell? ⟨g, o + i * 3 + j, none⟩ = some u := fun j u hj hu => by
    simp only [World.cell?, q2]
    rw [Nat.add_assoc]
    exact q5 _ _ ((hg j hj).trans hu)
  exact ⟨g, o, rfl, key 0 _ (by omega) rfl, key 1 _ (by omega) rfl, key 2 _ (by omega) rfl⟩
/-- A block that is not the row's. -/
def offRow (v : Value) (k : Nat) : Prop := ∀ g o n cap, v = .slice (some ⟨g, o, none⟩) n cap → 0 < cap → k ≠ g
theorem RowQ.at {w : World} {B : Nat} {e : TypeId} {sz : Nat} {n : Nat} {xs : List Value} {g o n' cap : Nat} (h : RowQ w B e sz (.slice (some ⟨g, o, none⟩) n' cap) n xs) (hc : 0 < cap) : g < w.heap.size ∧ B ≤ g := by
  obtain ⟨_, h2⟩ := h
  rcases h2 with ⟨_, A, hv⟩ | ⟨g', o', cap', cur, hv, q0, q1, q2, _⟩
  · injection hv with e1 e2 e3
    omega
  · injection hv with e1 e2 e3
    injection e1 with e1
    injection e1 with e4 e5
    subst e4
    exact ⟨(Array.getElem?_eq_some_iff.1 q2).1, q1⟩
theorem RowQ.off {w : World} {B : Nat} {e : TypeId} {sz : Nat} {v : Value} {n : Nat} {xs : List Value} (h : RowQ w B e sz v n xs) {k : Nat} (hk : offRow v k) (o : Nat) (vs : List Value) : RowQ (w.setCells k o vs) B e sz v n xs := by
  obtain ⟨h1, h2⟩ := h
  refine ⟨h1, ?_⟩
  rcases h2 with h2 | ⟨g, o', cap, cur, rfl, q0, q1, q2, q3⟩
  · exact Or.inl h2
  · exact Or.inr ⟨g, o', cap, cur, rfl, q0, q1, (far_setCells (Ne.symm (hk g o' n cap rfl q0)) vs o w).trans q2, q3⟩
/-- What a call of the document's lane knows of its world: the lane, its own boxes, that nothing older has turned but the lane's block. -/
structure Rb (w0 : World) (rb B : Nat) (r : RS) (v : Value) (L : List (Nat × Obj)) (w : World) : Prop where
  rl : RL w rb B r v
  fr : Far rb rb w0 w
  hb : rb < w0.heap.size
  obj : ∀ p ∈ L, w.heap[p.1]? = some p.2 ∧ w0.heap.size ≤ p.1 ∧ offRow v p.1
section
variable {w0 w w' : World} {rb B : Nat} {r r' : RS} {v v' : Value} {L L' : List (Nat × Obj)}
theorem Rb.start (h : RL w rb B r v) : Rb w rb B r v [] w := ⟨h, Far.refl _ _ _, h.rb, fun p hp => by cases hp⟩
theorem Rb.below (h : Rb w0 rb B r v L w) (j : Below w.heap.size w w') : Rb w0 rb B r v L w' :=
  ⟨h.rl.below j, h.fr.trans (Far.of_below j), h.hb, fun p hp => ⟨obj_below j (h.obj p hp).1, (h.obj p hp).2⟩⟩
theorem Rb.alloc (h : Rb w0 rb B r v L w) (o : Obj) : Rb w0 rb B r v ((w.heap.size, o) :: L) (w.alloc o) := by
  have j := h.below ((Below.refl _ w).alloc (Nat.le_refl _) o)
  refine ⟨j.rl, j.fr, j.hb, fun p hp => ?_⟩
  rcases List.mem_cons.1 hp with rfl | hp
  · refine ⟨World.alloc_heap_new _ _, h.fr.size, fun g o n cap hv hc => ?_⟩
    subst hv
    have := (h.rl.row.at hc).1
    simp only
    omega
  · exact j.obj p hp
theorem Rb.alloc2 (h : Rb w0 rb B r v L w) (o o' : Obj) : Rb w0 rb B r v ((w.heap.size + 1, o') :: (w.heap.size, o) :: L) ((w.alloc o).alloc o') := by
  have e : (w.alloc o).heap.size = w.heap.size + 1 := by show (w.heap.push o).size = _; rw [Array.size_push]
  have h1 := (h.alloc o).alloc o'
  rw [e] at h1
  exact h1
theorem Rb.sub (h : Rb w0 rb B r v L w) (hs : ∀ p ∈ L', p ∈ L) : Rb w0 rb B r v L' w := ⟨h.rl, h.fr, h.hb, fun p hp => h.obj p (hs p hp)⟩
theorem Rb.nil (h : Rb w0 rb B r v L w) : Rb w0 rb B r v [] w := h.sub (fun p hp => by cases hp)
theorem Rb.box (h : Rb w0 rb B r v L w) (g : Nat) (C : Array Value) (t : TypeId) (hg : (g, Obj.cells C t) ∈ L) (o : Nat) (vs : List Value)
    (hL : ∀ p ∈ L', p = (g, Obj.cells (QAg.setAll C o vs) t) ∨ (p ∈ L ∧ p.1 ≠ g)) : Rb w0 rb B r v L' (w.setCells g o vs) := by
  obtain ⟨h1, h2, h3⟩ := h.obj _ hg
  simp only at h1 h2 h3
  have hne : rb ≠ g := by have := h.hb; omega
  obtain ⟨e1, e2, e3, e4⟩ := os_setCells (g := g) vs o w
  refine ⟨⟨(far_setCells hne vs o w).trans h.rl.blk, h.rl.row.off h3 o vs, h.rl.lt, by rw [e4]; exact h.rl.sz, h.rl.len⟩, ?_, h.hb, fun p hp => ?_⟩
  · exact h.fr.setCells' h2 o vs
  · rcases hL p hp with rfl | ⟨hp, hn⟩
    · exact ⟨blk_setCells vs o C w h1, h2, h3⟩
    · exact ⟨(far_setCells hn vs o w).trans (h.obj p hp).1, (h.obj p hp).2⟩
theorem Rb.blk (h : Rb w0 rb B r v L w) {g : Nat} {C : Array Value} {t : TypeId} (hg : (g, Obj.cells C t) ∈ L) : w.heap[g]? = some (.cells C t (0, 0)) := (h.obj _ hg).1
theorem Rb.ptr (h : Rb w0 rb B r v L w) {g : Nat} {C : Array Value} {t : TypeId} (hg : (g, Obj.cells C t) ∈ L) (j : Nat) : w.cell? ⟨g, j, none⟩ = C[j]? ∧ w.frozen? ⟨g, j, none⟩ = false := by
  have h1 := (h.obj _ hg).1
  constructor
  · simp only [World.cell?, h1]; rfl
  · simp [World.frozen?, h1]
end
section
variable {w0 w w' : World} {rb B : Nat} {r r' : RS} {v v' : Value} {L L' : List (Nat × Obj)}
/-- A new row is put into the lane. -/
theorem Rb.setL (h : Rb w0 rb B r v L w) {B' : Nat} {l : List En} (hr : RowQ w B' 40 3 v' l.length (fM l)) (hB : B ≤ B') (hl : l.length ≤ 100000) (hL : ∀ p ∈ L', p ∈ L ∧ p.1 < B') : Rb w0 rb B { r with L := l } v' L' (w.setCell ⟨rb, 0, none⟩ v') := by
  have hb := blk_set h.rl.blk 0 v'
  have hoff : offRow v' rb := fun g o n cap hv hc => by subst hv; have := (hr.at hc).2; have := h.rl.lt; omega
  refine ⟨⟨hb, (hr.off hoff 0 [v']).base hB, h.rl.lt, ?_, hl⟩, h.fr.setCell 0 v', h.hb, fun p hp => ?_⟩
  · show B ≤ (w.setCell _ _).heap.size
    rw [show (w.setCell ⟨rb, 0, none⟩ v').heap.size = w.heap.size by simp [World.setCell]]
    exact h.rl.sz
  · obtain ⟨h1, h2, h3⟩ := h.obj p (hL p hp).1
    refine ⟨(Below.heap_setCell _ _ _ _ (by have := h.hb; simp only; omega)).trans h1, h2, fun g o n cap hv hc => ?_⟩
    subst hv
    have := (hr.at hc).2
    have := (hL p hp).2
    omega
/-- A field of the lane is another one. -/
theorem Rb.setF (h : Rb w0 rb B r v L w) (k : Nat) (u : Value) (hr : (rC r v).setIfInBounds k u = rC r' v) (hL : r'.L = r.L) : Rb w0 rb B r' v L (w.setCell ⟨rb, k, none⟩ u) := by
  have hb := blk_set h.rl.blk k u
  have hoff : offRow v rb := fun g o n cap hv hc => by subst hv; have := (h.rl.row.at hc).2; have := h.rl.lt; omega
  refine ⟨⟨by rw [← hr]; exact hb, by rw [hL]; exact h.rl.row.off hoff k [u], h.rl.lt, ?_, by rw [hL]; exact h.rl.len⟩, h.fr.setCell k u, h.hb, fun p hp => ?_⟩
  · rw [show (w.setCell ⟨rb, k, none⟩ u).heap.size = w.heap.size by simp [World.setCell]]
    exact h.rl.sz
  · obtain ⟨h1, h2, h3⟩ := h.obj p hp
    exact ⟨(Below.heap_setCell _ _ _ _ (by have := h.hb; simp only; omega)).trans h1, h2, h3⟩
end
/-- The first message that is so: its place, or -1. -/
def Fnd (l : List En) (p : En → Prop) (res : Int) : Prop := (∃ i, i < l.length ∧ res = (i : Int) ∧ (∃ m, l[i]? = some m ∧ p m) ∧ ∀ (k : Nat) m, k < i → l[k]? = some m → ¬ p m) ∨ (res = -1 ∧ ∀ (k : Nat) m, l[k]? = some m → ¬ p m)
theorem no_step {l : List En} {p : En → Prop} {i : Nat} {m : En} (h : ∀ (k : Nat) m, k < i → l[k]? = some m → ¬ p m) (hm : l[i]? = some m) (hp : ¬ p m) : ∀ (k : Nat) m, k < i + 1 → l[k]? = some m → ¬ p m := by
  intro k m' hk hk'
  rcases Nat.lt_or_ge k i with hl | hl
  · exact h k m' hl hk'
  · have : k = i := by omega
    subst this
    rw [hm] at hk'
    cases hk'
    exact hp
theorem no_end {l : List En} {p : En → Prop} {i : Nat} (h : ∀ (k : Nat) m, k < i → l[k]? = some m → ¬ p m) (hi : l.length ≤ i) : ∀ (k : Nat) m, l[k]? = some m → ¬ p m := fun k m hk => h k m (by have := (List.getElem?_eq_some_iff.1 hk).1; omega) hk
theorem ite_some' {p : Prop} [Decidable p] {a b : Addr} : (if p then some a else some b) = some (if p then a else b) := by split <;> rfl
theorem fM_take (l : List En) (i : Nat) : ∀ (j : Nat) u, (fM (l.take i))[j]? = some u → (fM l)[j]? = some u := by
  intro j u h
  have e : fM l = fM (l.take i) ++ fM (l.drop i) := by rw [← fM_append, List.take_append_drop]
  rw [e, List.getElem?_append_left (List.getElem?_eq_some_iff.1 h).1]
  exact h
theorem fM_drop (l : List En) (i : Nat) (hi : i ≤ l.length) : ∀ (j : Nat) u, (fM (l.drop i))[j]? = some u → (fM l)[i * 3 + j]? = some u := by
  intro j u h
  have e : fM l = fM (l.take i) ++ fM (l.drop i) := by rw [← fM_append, List.take_append_drop]
  have hl : (fM (l.take i)).length = i * 3 := by rw [fM_len, List.length_take, Nat.min_eq_left hi]
  rw [e, List.getElem?_append_right (by omega), hl, Nat.add_sub_cancel_left]
  exact h
theorem src_take {w : World} {A : Option Addr} {l : List En} (h : SrcAt w A (fM l)) (i : Nat) : SrcAt w A (fM (l.take i)) := fun j u hj => h j u (fM_take l i j u hj)
theorem src_drop {w : World} {g o c i : Nat} {l : List En} (h : SrcAt w (some ⟨g, o, none⟩) (fM l)) (hi : i + 1 ≤ l.length ∧ l.length ≤ c) : ∀ (j : Nat) u, (fM (l.drop (i + 1)))[j]? = some u → w.cell? ((if c = i + 1 then (⟨g, o, none⟩ : Addr) else ⟨g, o + (i + 1) * 3, none⟩).add j) = some u := by
  intro j u hj
  by_cases hc : c = i + 1
  · have h0 : l.drop (i + 1) = [] := List.drop_eq_nil_of_le (by omega)
    rw [h0] at hj
    simp [fM] at hj
  · rw [if_neg hc]
    obtain ⟨ad, e1, e2⟩ := h _ u (fM_drop l (i + 1) hi.1 j u hj)
    cases e1
    rw [Addr.add_lit] at e2 ⊢
    rw [Nat.add_assoc]
    exact e2
theorem info40 : (Try.prog.info? 40).map (fun i => (i.zero, i.size, i.bytes)) = some (some (.agg (aMs ⟨0, 0, 0, 0⟩)), 3, 24) := by kernel_rfl
end Go.Proofs.Ythjppjcmapgkpaa.QAg
