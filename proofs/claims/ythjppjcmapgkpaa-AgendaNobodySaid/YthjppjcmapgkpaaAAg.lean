/- Agenda: each. Written by a program of this repo (tools/gen_ag8.py). -/
import Derived.Test.YthjppjcmapgkpaaZAg
import Derived.RangeFuncNested
namespace Go.Proofs.Ythjppjcmapgkpaa.QAg
open Go.RowKit Go.Maps Go.Proofs.YthjppjcmapgkpaaW.PrintWords Go.Proofs.YthjppjcmapgkpaaW.PrintLast Go.Proofs.YthjppjcmapgkpaaW.PrintMore
set_option linter.unusedVariables false
set_option linter.unusedSimpArgs false
attribute [local go_sem] Oper.semAt_some
/-! ### One after the other, what comes first first -/
def seqN : Nat → List En → List En
  | 0, _ => []
  | k + 1, M => match best M with
    | none => []
    | some x => x :: seqN k (rem M x.id)
def leftN : Nat → List En → List En
  | 0, M => M
  | k + 1, M => match best M with
    | none => M
    | some x => leftN k (rem M x.id)
theorem seqN_succ : ∀ (j : Nat) (M : List En) (x : En), (seqN j M).length = j → best (leftN j M) = some x → seqN (j + 1) M = seqN j M ++ [x] ∧ leftN (j + 1) M = rem (leftN j M) x.id ∧ (seqN (j + 1) M).length = j + 1
  | 0, M, x, _, h => by
    have h' : best M = some x := h
    simp only [seqN, leftN, h']
    exact ⟨rfl, trivial, rfl⟩
  | j + 1, M, x, hl, h => by
    cases hb : best M with
    | none =>
      simp only [seqN, hb] at hl
      cases hl
    | some y =>
      have e1 : seqN (j + 1) M = y :: seqN j (rem M y.id) := by simp only [seqN, hb]
      have e2 : leftN (j + 1) M = leftN j (rem M y.id) := by simp only [leftN, hb]
      have e3 : seqN (j + 1 + 1) M = y :: seqN (j + 1) (rem M y.id) := by rw [seqN, hb]
      have e4 : leftN (j + 1 + 1) M = leftN (j + 1) (rem M y.id) := by rw [leftN, hb]
      rw [e1] at hl
      rw [e2] at h
      obtain ⟨g1, g2, g3⟩ := seqN_succ j (rem M y.id) x (by simpa using hl) h
      rw [e1, e2, e3, e4, g1, g2]
      refine ⟨rfl, rfl, ?_⟩
      rw [← g1, List.length_cons, g3]
theorem seqN_end : ∀ (j : Nat) (M : List En), (seqN j M).length = j → best (leftN j M) = none → ∀ k, j ≤ k → seqN k M = seqN j M ∧ leftN k M = leftN j M
  | 0, M, _, h, k, _ => by
    have h' : best M = none := h
    cases k with
    | zero => exact ⟨rfl, rfl⟩
    | succ k => simp only [seqN, leftN, h']; exact ⟨trivial, trivial⟩
  | j + 1, M, hl, h, k, hk => by
    obtain ⟨k, rfl⟩ : ∃ k', k = k' + 1 := ⟨k - 1, by omega⟩
    cases hb : best M with
    | none =>
      simp only [seqN, hb] at hl
      cases hl
    | some y =>
      have e1 : ∀ i, seqN (i + 1) M = y :: seqN i (rem M y.id) := fun i => by simp only [seqN, hb]
      have e2 : ∀ i, leftN (i + 1) M = leftN i (rem M y.id) := fun i => by simp only [leftN, hb]
      rw [e1] at hl
      rw [e2] at h
      obtain ⟨g1, g2⟩ := seqN_end j (rem M y.id) (by simpa using hl) h k (by omega)
      rw [e1, e1, e2, e2, g1, g2]
      exact ⟨rfl, rfl⟩
theorem best_mem' {M : List En} (hp : M.Pairwise (fun x y => x.id < y.id)) {x : En} (h : best M = some x) : x ∈ M := by
  have hne : M ≠ [] := fun hc => by rw [hc] at h; cases h
  obtain ⟨y, h1, h2, _⟩ := best_spec hp hne
  rw [h1] at h
  cases h
  exact h2
theorem seqN_sum : ∀ (j : Nat) (M : List En), M.Pairwise (fun x y => x.id < y.id) → (seqN j M).length + (leftN j M).length = M.length
  | 0, M, _ => by simp [seqN, leftN]
  | j + 1, M, hp => by
    cases hb : best M with
    | none => simp [seqN, leftN, hb]
    | some y =>
      have e1 : seqN (j + 1) M = y :: seqN j (rem M y.id) := by simp only [seqN, hb]
      have e2 : leftN (j + 1) M = leftN j (rem M y.id) := by simp only [leftN, hb]
      rw [e1, e2, List.length_cons]
      have := seqN_sum j (rem M y.id) (hp.sublist List.filter_sublist)
      have := rem_len hp (best_mem' hp hb)
      omega
theorem seqN_lt {j : Nat} {M : List En} {x : En} (hp : M.Pairwise (fun x y => x.id < y.id)) (hl : (seqN j M).length = j) (h : best (leftN j M) = some x) : (seqN j M).length < M.length := by
  have := seqN_sum j M hp
  have hne : leftN j M ≠ [] := fun hc => by rw [hc] at h; cases h
  have := List.length_pos_iff.2 hne
  omega
/-! ### Pop, either way -/
structure PopP (w : World) (b mb B : Nat) (nx : Int) (M : List En) (k m : Int) (ok : Bool) (w' : World) : Prop where
  ok : ok = (best M).isSome
  some : ∀ x, best M = some x → k = x.key ∧ m = x.mark ∧ Ax w' b mb B nx (rem M x.id)
  none : best M = none → Ax w' b mb B nx M
  ag : Ag b mb B w w'
theorem Ax.inc {w : World} {b mb B : Nat} {nx : Int} {M : List En} (h : Ax w b mb B nx M) : M.Pairwise (fun x y => x.id < y.id) := by
  obtain ⟨v, n, e, h1, h2, _⟩ := h
  exact h2.inc
theorem Pop_any {w : World} {b mb B : Nat} {nx : Int} {M : List En} (h : Ax w b mb B nx M) : Calls Try.prog 16 #[.pointer (some ⟨b, 0, none⟩)] w fun r w' => ∃ k m id ok, r = .returned (.tuple #[.agg (aT k m), .int .i64 id, .bool ok]) ∧ PopP w b mb B nx M k m ok w' := by
  cases hb : best M with
  | none =>
    have hM := best_none h.inc hb
    subst hM
    refine (Pop_none h).mono ?_
    rintro r w' ⟨rfl, h1⟩
    exact ⟨0, 0, 0, false, rfl, ⟨rfl, fun x hx => (by cases hx), fun _ => h.below h1, Ag.of_below h1⟩⟩
  | some x =>
    refine (Pop_some h hb).mono ?_
    rintro r w' ⟨rfl, h1, h2⟩
    exact ⟨x.key, x.mark, x.id, true, rfl, ⟨(by rw [hb]; rfl), fun y hy => (by rw [hb] at hy; cases hy; exact ⟨rfl, rfl, h1⟩), fun hc => (by rw [hb] at hc; cases hc), h2⟩⟩
/-- How many entries the agenda at b has. -/
def lenAt (w : World) (b : Nat) : Nat := match w.cell? ⟨b, 0, none⟩ with
  | some (.slice _ n _) => n
  | _ => 0
theorem Ax.len {w : World} {b mb B : Nat} {nx : Int} {M : List En} (h : Ax w b mb B nx M) : lenAt w b = M.length := by
  obtain ⟨v, n, e, h1, h2, _⟩ := h
  obtain ⟨A, c, rfl, _⟩ := h1.hq.hp.form
  unfold lenAt
  rw [h1.hq.hp.cells.1, h2.len]
theorem rem_shorter {M : List En} (hp : M.Pairwise (fun x y => x.id < y.id)) {x : En} (h : best M = some x) : (rem M x.id).length + 1 = M.length := by
  have hne : M ≠ [] := fun hc => by rw [hc] at h; cases h
  obtain ⟨y, h1, h2, _⟩ := best_spec hp hne
  rw [h1] at h
  cases h
  exact rem_len hp h2
/-! ### What the iterator turns, and what a yield does -/
/-- Block i is neither the box at go, nor the row that it holds. -/
def Fr (w : World) (go i : Nat) : Prop := i ≠ go ∧ ∀ v, w.heap[go]? = some (.cells #[v] 36 (0, 0)) → v.ownBlock ≠ some i
structure Tr (b mb B n1 go : Nat) (w w' : World) : Prop where
  os : w'.os = w.os
  tape : w'.tape = w.tape
  output : w'.output = w.output
  size : w.heap.size ≤ w'.heap.size
  block : ∀ i, i < w.heap.size → w'.heap[i]? = w.heap[i]? ∨ i = b ∨ i = mb ∨ (∃ cur t, w.heap[i]? = some (.cells cur t (0, 0)) ∧ ((B ≤ i ∧ (t = 73 ∨ t = 75)) ∨ (n1 ≤ i ∧ t = 27 ∧ Fr w go i)))
  keep : ∀ (i : Nat) (cur : Array Value) (t : TypeId), w.heap[i]? = some (.cells cur t (0, 0)) → ∃ cur', w'.heap[i]? = some (.cells cur' t (0, 0))
theorem Tr.of_ag {b mb B n1 go : Nat} {w w' : World} (h : Ag b mb B w w') : Tr b mb B n1 go w w' :=
  ⟨h.os, h.tape, h.output, h.size, fun i hi => by
    rcases h.block i hi with h1 | h1 | h1 | ⟨h1, cur, t, h2, h3⟩
    · exact Or.inl h1
    · exact Or.inr (Or.inl h1)
    · exact Or.inr (Or.inr (Or.inl h1))
    · exact Or.inr (Or.inr (Or.inr ⟨cur, t, h2, Or.inl ⟨h1, h3⟩⟩)), h.keep⟩
theorem Tr.of_below {b mb B n1 go : Nat} {w w' : World} (h : Below w.heap.size w w') : Tr b mb B n1 go w w' := Tr.of_ag (Ag.of_below h)
theorem Tr.of_set {b mb B n1 go g : Nat} {w : World} {C : Array Value} (hg : w.heap[g]? = some (.cells C 27 (0, 0))) (h1 : n1 ≤ g) (hf : Fr w go g) (o : Nat) (vs : List Value) : Tr b mb B n1 go w (w.setCells g o vs) := by
  obtain ⟨e1, e2, e3, e4⟩ := os_setCells (g := g) vs o w
  refine ⟨e1, e2, e3, by rw [e4]; exact Nat.le_refl _, fun i hi => ?_, fun i cur t hi => ?_⟩
  · by_cases hig : i = g
    · subst hig
      exact Or.inr (Or.inr (Or.inr ⟨C, 27, hg, Or.inr ⟨h1, rfl, hf⟩⟩))
    · exact Or.inl (far_setCells hig vs o w)
  · by_cases hig : i = g
    · rw [hig] at hi ⊢
      exact ⟨_, blk_setCells vs o _ _ hi⟩
    · exact ⟨cur, (far_setCells hig vs o w).trans hi⟩
/-- The box is not turned by the iterator: what is foreign stays foreign. -/
theorem Tr.box {b mb B n1 go : Nat} {w w' : World} (h : Tr b mb B n1 go w w') {v : Value} (hg : w.heap[go]? = some (.cells #[v] 36 (0, 0))) (hb : go ≠ b) (hm : go ≠ mb) : w'.heap[go]? = some (.cells #[v] 36 (0, 0)) := by
  rcases h.block go (Array.getElem?_eq_some_iff.1 hg).1 with h1 | h1 | h1 | ⟨c, t, h1, h2⟩
  · exact h1.trans hg
  · exact absurd h1 hb
  · exact absurd h1 hm
  · rw [hg] at h1
    injection h1 with h1
    injection h1 with _ h1
    subst h1
    rcases h2 with ⟨_, h2 | h2⟩ | ⟨_, h2, _⟩
    · exact absurd h2 (by decide)
    · exact absurd h2 (by decide)
    · exact absurd h2 (by decide)
theorem Tr.fr {b mb B n1 go : Nat} {w w' : World} (h : Tr b mb B n1 go w w') {v : Value} (hg : w.heap[go]? = some (.cells #[v] 36 (0, 0))) (hb : go ≠ b) (hm : go ≠ mb) {i : Nat} (hf : Fr w go i) : Fr w' go i :=
  ⟨hf.1, fun v' hv => by rw [h.box hg hb hm] at hv; injection hv with hv; injection hv with hv; injection hv with hv; injection hv with hv; exact hv ▸ hf.2 v hg⟩
/-- What a yield does: the box, its row, and new blocks. -/
structure Kq (go : Nat) (w w' : World) : Prop where
  size : w.heap.size ≤ w'.heap.size
  block : ∀ i, i < w.heap.size → w'.heap[i]? = w.heap[i]? ∨ i = go ∨ ((∃ cur, w.heap[i]? = some (.cells cur 27 (0, 0))) ∧ ¬ Fr w go i) ∨ (∃ r, w.heap[i]? = some (.loop r))
  fr : ∀ i, i < w.heap.size → Fr w go i → Fr w' go i
theorem Kq.same {go : Nat} {w w' : World} (h : Kq go w w') {i : Nat} {cur : Array Value} {t : TypeId} (hi : w.heap[i]? = some (.cells cur t (0, 0))) (hf : Fr w go i) : w'.heap[i]? = w.heap[i]? := by
  rcases h.block i (Array.getElem?_eq_some_iff.1 hi).1 with h1 | h1 | ⟨_, h1⟩ | ⟨r, h1⟩
  · exact h1
  · exact absurd h1 hf.1
  · exact absurd hf h1
  · rw [hi] at h1; cases h1
theorem Kq.typed {go : Nat} {w w' : World} (h : Kq go w w') {v : Value} (hg : w.heap[go]? = some (.cells #[v] 36 (0, 0))) {i : Nat} {cur : Array Value} {t : TypeId} (hi : w.heap[i]? = some (.cells cur t (0, 0))) (h27 : t ≠ 27) (h36 : t ≠ 36) : w'.heap[i]? = w.heap[i]? := by
  rcases h.block i (Array.getElem?_eq_some_iff.1 hi).1 with h1 | h1 | ⟨⟨c, h1⟩, _⟩ | ⟨r, h1⟩
  · exact h1
  · rw [h1, hg] at hi
    injection hi with hi
    injection hi with _ hi
    exact absurd hi.symm h36
  · rw [hi] at h1
    injection h1 with h1
    injection h1 with _ h1
    exact absurd h1 h27
  · rw [hi] at h1; cases h1
theorem Ax.yield {go b mb B : Nat} {w w' : World} {nx : Int} {M : List En} (h : Ax w b mb B nx M) (k : Kq go w w') {v : Value} (hg : w.heap[go]? = some (.cells #[v] 36 (0, 0))) : Ax w' b mb B nx M := by
  obtain ⟨u, n, e, h1, h2⟩ := h
  refine ⟨u, n, e, h1.keep k.size (fun i cur t hi h3 => k.typed hg hi (by rcases h3 with h3 | h3 | h3 <;> (subst h3; decide)) (by rcases h3 with h3 | h3 | h3 <;> (subst h3; decide))) (fun es cl hm => ?_), h2⟩
  rcases k.block mb (Array.getElem?_eq_some_iff.1 hm).1 with h3 | h3 | ⟨⟨c, h3⟩, _⟩ | ⟨r, h3⟩
  · exact h3
  · rw [h3, hg] at hm
    cases hm
  · rw [hm] at h3
    cases h3
  · rw [hm] at h3
    cases h3
abbrev fPop (b : Nat) : Value := .func (.func 16) #[.pointer (some ⟨b, 0, none⟩)] #[]
abbrev fYld (go gm : Nat) : Value := .func (.func 32) #[] #[.pointer (some ⟨go, 0, none⟩), .pointer (some ⟨gm, 0, none⟩)]
/-- At the loop's head: so many have come; what comes next lies in its box. -/
structure EachI (b mb B n1 go : Nat) (nx : Int) (M0 : List En) (J : List En → World → Prop) (j g4 : Nat) (k m : Int) (ok : Bool) (w : World) : Prop where
  len : (seqN j M0).length = j
  inc : (leftN j M0).Pairwise (fun x y => x.id < y.id)
  jj : J (seqN j M0) w
  box : w.heap[g4]? = some (.cells (aT k m) 27 (0, 0))
  lt : n1 ≤ g4
  fr : Fr w go g4
  ok : ok = (best (leftN j M0)).isSome
  some : ∀ x, best (leftN j M0) = some x → k = x.key ∧ m = x.mark ∧ Ax w b mb B nx (rem (leftN j M0) x.id)
  none : best (leftN j M0) = none → Ax w b mb B nx (leftN j M0)
def okN : Value → Nat
  | .bool true => 1
  | _ => 0
def EndI (b mb B : Nat) (nx : Int) (M0 : List En) (J Jx : List En → World → Prop) (w : World) : Prop :=
  (∃ j, (seqN j M0).length = j ∧ best (leftN j M0) = none ∧ J (seqN j M0) w ∧ Ax w b mb B nx (leftN j M0)) ∨
  (∃ j, (seqN (j + 1) M0).length = j + 1 ∧ Jx (seqN (j + 1) M0) w ∧ Ax w b mb B nx (leftN (j + 1) M0))
theorem mkEach {b mb B n1 go : Nat} {nx : Int} {M0 : List En} {J : List En → World → Prop} {j g4 : Nat} {k m : Int} {ok : Bool} {w1 w2 w : World} (hl : (seqN j M0).length = j) (hi : (leftN j M0).Pairwise (fun x y => x.id < y.id)) (hj : J (seqN j M0) w) (hb : w.heap[g4]? = some (.cells (aT k m) 27 (0, 0))) (h1 : n1 ≤ g4) (hf : Fr w go g4) (hp : PopP w1 b mb B nx (leftN j M0) k m ok w2) (hx : ∀ M, Ax w2 b mb B nx M → Ax w b mb B nx M) : EachI b mb B n1 go nx M0 J j g4 k m ok w :=
  ⟨hl, hi, hj, hb, h1, hf, hp.ok, fun x hx' => ⟨(hp.some x hx').1, (hp.some x hx').2.1, hx _ (hp.some x hx').2.2⟩, fun hn => hx _ (hp.none hn)⟩
theorem meas_pop {b mb B : Nat} {nx : Int} {M : List En} {k m : Int} {ok : Bool} {w1 w2 w3 : World} {n : Nat} (hi : M.Pairwise (fun x y => x.id < y.id)) (hp : PopP w1 b mb B nx M k m ok w2) (hx : ∀ M, Ax w2 b mb B nx M → Ax w3 b mb B nx M) (hn : n = M.length + 1) : lenAt w3 b + okN (.bool ok) < n := by
  have h0 := hp.ok
  cases hb : best M with
  | none =>
    rw [(hx _ (hp.none hb)).len]
    rw [hb] at h0
    rw [h0]
    simp [okN]
    omega
  | some x =>
    rw [(hx _ (hp.some x hb).2.2).len]
    have := rem_shorter hi hb
    rw [hb] at h0
    rw [h0]
    simp [okN]
    omega
set_option maxRecDepth 100000 in
set_option maxHeartbeats 2000000 in
theorem eachF_calls {go gm : Nat} {w : World} {b mb B : Nat} {nx : Int} {M0 : List En} (h : Ax w b mb B nx M0) (hb : go ≠ b) (hm : go ≠ mb) (J Jx : List En → World → Prop) (hJ : ∀ pre W W', J pre W → Tr b mb B w.heap.size go W W' → J pre W') (hF : ∀ pre W, J pre W → ∃ v, W.heap[go]? = some (.cells #[v] 36 (0, 0)) ∧ ∀ i, v.ownBlock = some i → i < W.heap.size) (h0 : J [] w)
    (hY : ∀ (pre : List En) (x : En) (W1 : World), J pre W1 → pre.length < M0.length → Calls Try.prog 32 #[.agg (aT x.key x.mark), .pointer (some ⟨go, 0, none⟩), .pointer (some ⟨gm, 0, none⟩)] W1 fun r W' => (r = .returned (.bool true) ∧ J (pre ++ [x]) W' ∧ Kq go W1 W') ∨ (r = .returned (.bool false) ∧ Jx (pre ++ [x]) W' ∧ Kq go W1 W')) :
    Calls Try.prog 45 #[fPop b, fYld go gm] w fun r w' => r = .returned (.tuple #[]) ∧ EndI b mb B nx M0 J Jx w' := by
  have HA := Aside0.mk h
  have HI := Aside0.mk h.inc
  have HI0 := Aside0.mk h.inc
  have HB := Aside0.mk (And.intro hb hm)
  have HJ := Aside0.mk hJ
  have HF := Aside0.mk hF
  have H0 := Aside0.mk h0
  have HY := Aside0.mk hY
  have HN : Aside0 (∃ n1, n1 = w.heap.size) := ⟨⟨_, rfl⟩⟩
  obtain ⟨n1, hn1⟩ := HN.out
  have HN1 := Aside0.mk hn1
  rw [← hn1] at HJ
  have HNE : ∀ (pre : List En) (W W' : World), J pre W → Below W.heap.size W W' → ∀ g, g = W.heap.size → go < W.heap.size → Fr W' go g := fun pre W W' hj hbl g hg hlt => by
    obtain ⟨v, h1, h2⟩ := HF.out pre W hj
    refine ⟨by omega, fun v' hv => ?_⟩
    rw [obj_below hbl h1] at hv
    injection hv with hv; injection hv with hv; injection hv with hv; injection hv with hv
    subst hv
    intro hc
    have := h2 g hc
    omega
  have HFR := Aside0.mk HNE
  clear h hb hm hJ hF h0 hY HN hn1 HNE
  go_enter Try.func45, Try.ntmps45
  go_upto_region 1 with (go_at_call 16; refine (Pop_any HA.out).mono ?_; rintro r w2 ⟨k, m, id, ok, rfl, hp⟩; have HP := Aside0.mk hp; clear hp)
  have HB2 : Aside0 (Below w2.heap.size w2 (w2.alloc (.cells (aT k m) 27))) := ⟨(Below.refl _ _).alloc (Nat.le_refl _) _⟩
  have HE0 : Aside0 (EachI b mb B n1 go nx M0 J 0 w2.heap.size k m ok (w2.alloc (.cells (aT k m) 27))) := ⟨by
    have hj2 : J [] w2 := HJ.out _ _ _ H0.out (Tr.of_ag HP.out.ag)
    obtain ⟨v, hv, _⟩ := HF.out _ _ hj2
    exact mkEach (j := 0) rfl HI.out (HJ.out _ _ _ hj2 (Tr.of_below HB2.out)) (World.alloc_heap_new _ _) (by rw [HN1.out]; exact HP.out.ag.size) (HFR.out _ _ _ hj2 HB2.out _ rfl (Array.getElem?_eq_some_iff.1 hv).1) HP.out (fun M hx => hx.below HB2.out)⟩
  try change Code.wp _ _ _ _ (w2.alloc (.cells (aT k m) 27))
  clear HP HB2 H0 HA HI
  generalize w2.alloc (.cells (aT k m) 27) = w3 at HE0 ⊢
  generalize w2.heap.size = g3 at HE0 ⊢
  go_loopw [4, 6] (fun u4 u6 wr => ∃ (j g4 : Nat) (k m : Int) (ok : Bool), u4 = .pointer (some ⟨g4, 0, none⟩) ∧ u6 = .bool ok ∧ Aside0 (EachI b mb B n1 go nx M0 J j g4 k m ok wr)) (fun _ u6 wr => lenAt wr b + okN u6)
  case atStart => exact ⟨0, g3, k, m, ok, rfl, rfl, HE0⟩
  case round =>
    clear HE0
    obtain ⟨j, g4, k, m, ok, rfl, rfl, HS⟩ := hrel
    cases ok with
    | false =>
      go_wp2
      refine bodyPost_end (results_none rfl _ _ _) rfl ⟨rfl, Or.inl ⟨j, HS.out.len, ?_, HS.out.jj, ?_⟩⟩
      · have := HS.out.ok
        cases hb : best (leftN j M0) with
        | none => rfl
        | some x => rw [hb] at this; cases this
      · have := HS.out.ok
        cases hb : best (leftN j M0) with
        | none => exact HS.out.none hb
        | some x => rw [hb] at this; cases this
    | true =>
      have HX : Aside0 (∃ x, best (leftN j M0) = some x) := ⟨by
        have := HS.out.ok
        cases hb : best (leftN j M0) with
        | none => rw [hb] at this; cases this
        | some x => exact ⟨x, rfl⟩⟩
      obtain ⟨x, hx⟩ := HX.out
      have HX2 := Aside0.mk hx
      obtain ⟨hk, hm, hax⟩ := HS.out.some x hx
      subst hk hm
      have HAX := Aside0.mk hax
      have HSQ := Aside0.mk (seqN_succ j M0 x HS.out.len hx)
      have HSL : Aside0 ((seqN j M0).length < M0.length) := ⟨seqN_lt HI0.out HS.out.len hx⟩
      have HLEN : Aside0 (lenAt wr b + 1 = (rem (leftN j M0) x.id).length + 1) := ⟨by rw [hax.len]⟩
      clear hx hax HX
      have hb4 := HS.out.box
      have x0 : wr.cell? ⟨g4, 0, none⟩ = some (.int .i8 x.key) := by simp only [World.cell?, hb4]; rfl
      have x1 : wr.cell? ⟨g4, 1, none⟩ = some (.int .i64 x.mark) := by simp only [World.cell?, hb4]; rfl
      clear hb4
      go_upto_region 4 with (go_at_call 32; refine (HY.out _ x _ HS.out.jj HSL.out).mono ?_; rintro r w4 (⟨rfl, hj4, hk4⟩ | ⟨rfl, hj4, hk4⟩) <;> (have HV := Aside0.mk (And.intro hj4 hk4); clear hj4 hk4))
      · have HGO : Aside0 (∃ v, wr.heap[go]? = some (.cells #[v] 36 (0, 0))) := ⟨by obtain ⟨v, hv, _⟩ := HF.out _ _ HS.out.jj; exact ⟨v, hv⟩⟩
        have hb5 : w4.heap[g4]? = some (.cells (aT x.key x.mark) 27 (0, 0)) := (HV.out.2.same HS.out.box HS.out.fr).trans HS.out.box
        have HA4 : Aside0 (Ax w4 b mb B nx (leftN (j + 1) M0)) := ⟨by obtain ⟨v, hv⟩ := HGO.out; rw [HSQ.out.2.1]; exact HAX.out.yield HV.out.2 hv⟩
        have HJ4 : Aside0 (J (seqN (j + 1) M0) w4) := ⟨by rw [HSQ.out.1]; exact HV.out.1⟩
        have HLE : Aside0 (n1 ≤ w4.heap.size) := ⟨by have := HS.out.lt; have := (Array.getElem?_eq_some_iff.1 hb5).1; omega⟩
        replace x0 : w4.cell? ⟨g4, 0, none⟩ = some (.int .i8 x.key) := by simp only [World.cell?, hb5]; rfl
        replace x1 : w4.cell? ⟨g4, 1, none⟩ = some (.int .i64 x.mark) := by simp only [World.cell?, hb5]; rfl
        clear hb5 HV HGO HAX
        go_upto_region 2 with fail
        clear x0 x1
        have HB5 : Aside0 (Below w4.heap.size w4 (w4.alloc (.cells (aT x.key x.mark) 27))) := ⟨(Below.refl _ _).alloc (Nat.le_refl _) _⟩
        have HJ5 : Aside0 (J (seqN (j + 1) M0) (w4.alloc (.cells (aT x.key x.mark) 27)) ∧ Fr (w4.alloc (.cells (aT x.key x.mark) 27)) go w4.heap.size) := ⟨HJ.out _ _ _ HJ4.out (Tr.of_below HB5.out), by obtain ⟨v, hv, _⟩ := HF.out _ _ HJ4.out; exact HFR.out _ _ _ HJ4.out HB5.out _ rfl (Array.getElem?_eq_some_iff.1 hv).1⟩
        have HA5 := Aside0.mk (HA4.out.below HB5.out)
        have HK5 : Aside0 ((w4.alloc (.cells (aT x.key x.mark) 27)).heap[w4.heap.size]? = some (.cells (aT x.key x.mark) 27 (0, 0))) := ⟨World.alloc_heap_new _ _⟩
        try change Code.wp _ _ _ _ (w4.alloc (.cells (aT x.key x.mark) 27))
        clear HB5 HJ4 HA4
        generalize w4.alloc (.cells (aT x.key x.mark) 27) = w5 at HJ5 HA5 HK5 ⊢
        generalize w4.heap.size = g5 at HJ5 HK5 HLE ⊢
        go_wp2_with (first
          | (go_at_call 16; refine (Pop_any HA5.out).mono ?_; rintro r w6 ⟨k6, m6, id6, ok6, rfl, hp⟩; have HP := Aside0.mk hp; clear hp; have HBX : Aside0 (w6.heap[g5]? = some (.cells (aT x.key x.mark) 27 (0, 0)) ∧ Fr w6 go g5 ∧ J (seqN (j + 1) M0) w6) := ⟨by obtain ⟨v, hv, _⟩ := HF.out _ _ HJ5.out.1; obtain ⟨hlb, hlm⟩ := HB.out; refine ⟨HP.out.ag.box HK5.out (fun hc => ?_) (fun hc => ?_) ⟨by decide, by decide⟩, (Tr.of_ag (n1 := n1) HP.out.ag).fr hv hlb hlm HJ5.out.2, HJ.out _ _ _ HJ5.out.1 (Tr.of_ag HP.out.ag)⟩; (obtain ⟨u, nn, ee, ha, _⟩ := HA5.out; have h1 := ha.hq.hp.blk; have h2 := HK5.out; rw [hc] at h2; rw [h1] at h2; injection h2 with h2; injection h2 with _ h2; exact absurd h2 (by decide)); (obtain ⟨u, nn, ee, ha, _⟩ := HA5.out; obtain ⟨N, D, h3, _⟩ := ha.mp; obtain ⟨es, cl, h1⟩ := own_block h3; have h2 := HK5.out; rw [hc] at h2; rw [h1] at h2; cases h2)⟩)
          | ((with_reducible refine gate_store (t := 27) (p := 4) rfl ?_); refine store_blk rfl 27 (.tmp 4) (.tmp 17) rfl g5 0 (aT k6 m6) (aT x.key x.mark) 27 rfl rfl HBX.out.1 (by simp) (by kernel_rfl) (by simp [Value.oneCell']) ?_; intro w9 hw9 hb9; have H9 := Aside0.mk (And.intro hw9 hb9); clear hw9 hb9))
        have HTR : Aside0 (Tr b mb B n1 go w6 w9) := ⟨by rw [H9.out.1]; exact Tr.of_set HBX.out.1 HLE.out HBX.out.2.1 _ _⟩
        have HAX9 : Aside0 (∀ M, Ax w6 b mb B nx M → Ax w9 b mb B nx M) := ⟨fun M hM => by rw [H9.out.1]; exact hM.far HBX.out.1 ⟨by decide, by decide, by decide⟩ _ _⟩
        go_roundw
        case rel => exact ⟨j + 1, g5, k6, m6, ok6, rfl, rfl, ⟨by
          obtain ⟨v, hv, _⟩ := HF.out _ _ HBX.out.2.2
          exact mkEach HSQ.out.2.2 (by rw [HSQ.out.2.1]; exact HS.out.inc.sublist List.filter_sublist) (HJ.out _ _ _ HBX.out.2.2 HTR.out) H9.out.2 HLE.out (HTR.out.fr hv HB.out.1 HB.out.2 HBX.out.2.1) HP.out HAX9.out⟩⟩
        case measure =>
          exact meas_pop (n := lenAt wr b + 1) (by rw [HSQ.out.2.1]; exact HS.out.inc.sublist List.filter_sublist) HP.out HAX9.out (by rw [HLEN.out, HSQ.out.2.1])
      · go_wp2
        (try simp only [Exit.inBlock, Exit.then])
        refine bodyPost_ret (results_none rfl _ _ _) rfl ⟨rfl, Or.inr ⟨j, HSQ.out.2.2, by rw [HSQ.out.1]; exact HV.out.1, ?_⟩⟩
        obtain ⟨v, hv, _⟩ := HF.out _ _ HS.out.jj
        rw [HSQ.out.2.1]
        exact HAX.out.yield HV.out.2 hv
set_option maxRecDepth 100000 in
set_option maxHeartbeats 2000000 in
theorem eachR_calls {k0 l go : Nat} {w : World} {b mb B : Nat} {nx : Int} {M0 : List En} (h : Ax w b mb B nx M0) (hb : go ≠ b) (hm : go ≠ mb) (J Jx : List En → World → Prop) (hJ : ∀ pre W W', J pre W → Tr b mb B w.heap.size go W W' → J pre W') (hF : ∀ pre W, J pre W → ∃ v, W.heap[go]? = some (.cells #[v] 36 (0, 0)) ∧ ∀ i, v.ownBlock = some i → i < W.heap.size) (h0 : J [] w)
    (hY : ∀ (pre : List En) (x : En) (W1 : World), J pre W1 → pre.length < M0.length → YieldAt Fence.wide k0 Try.prog l #[.agg (aT x.key x.mark)] W1 fun r W' => (r = .returned (.bool true) ∧ J (pre ++ [x]) W' ∧ Kq go W1 W') ∨ (r = .returned (.bool false) ∧ Jx (pre ++ [x]) W' ∧ Kq go W1 W')) :
    Calls Try.prog 45 #[fPop b, .func (.yield l) #[] #[]] w fun r w' => r = .returned (.tuple #[]) ∧ EndI b mb B nx M0 J Jx w' := by
  have HA := Aside0.mk h
  have HI := Aside0.mk h.inc
  have HI0 := Aside0.mk h.inc
  have HB := Aside0.mk (And.intro hb hm)
  have HJ := Aside0.mk hJ
  have HF := Aside0.mk hF
  have H0 := Aside0.mk h0
  have HY := Aside0.mk hY
  have HN : Aside0 (∃ n1, n1 = w.heap.size) := ⟨⟨_, rfl⟩⟩
  obtain ⟨n1, hn1⟩ := HN.out
  have HN1 := Aside0.mk hn1
  rw [← hn1] at HJ
  have HNE : ∀ (pre : List En) (W W' : World), J pre W → Below W.heap.size W W' → ∀ g, g = W.heap.size → go < W.heap.size → Fr W' go g := fun pre W W' hj hbl g hg hlt => by
    obtain ⟨v, h1, h2⟩ := HF.out pre W hj
    refine ⟨by omega, fun v' hv => ?_⟩
    rw [obj_below hbl h1] at hv
    injection hv with hv; injection hv with hv; injection hv with hv; injection hv with hv
    subst hv
    intro hc
    have := h2 g hc
    omega
  have HFR := Aside0.mk HNE
  clear h hb hm hJ hF h0 hY HN hn1 HNE
  go_enter Try.func45, Try.ntmps45
  go_upto_region 1 with (go_at_call 16; refine (Pop_any HA.out).mono ?_; rintro r w2 ⟨k, m, id, ok, rfl, hp⟩; have HP := Aside0.mk hp; clear hp)
  have HB2 : Aside0 (Below w2.heap.size w2 (w2.alloc (.cells (aT k m) 27))) := ⟨(Below.refl _ _).alloc (Nat.le_refl _) _⟩
  have HE0 : Aside0 (EachI b mb B n1 go nx M0 J 0 w2.heap.size k m ok (w2.alloc (.cells (aT k m) 27))) := ⟨by
    have hj2 : J [] w2 := HJ.out _ _ _ H0.out (Tr.of_ag HP.out.ag)
    obtain ⟨v, hv, _⟩ := HF.out _ _ hj2
    exact mkEach (j := 0) rfl HI.out (HJ.out _ _ _ hj2 (Tr.of_below HB2.out)) (World.alloc_heap_new _ _) (by rw [HN1.out]; exact HP.out.ag.size) (HFR.out _ _ _ hj2 HB2.out _ rfl (Array.getElem?_eq_some_iff.1 hv).1) HP.out (fun M hx => hx.below HB2.out)⟩
  try change Code.wp _ _ _ _ (w2.alloc (.cells (aT k m) 27))
  clear HP HB2 H0 HA HI
  generalize w2.alloc (.cells (aT k m) 27) = w3 at HE0 ⊢
  generalize w2.heap.size = g3 at HE0 ⊢
  go_loopw [4, 6] (fun u4 u6 wr => ∃ (j g4 : Nat) (k m : Int) (ok : Bool), u4 = .pointer (some ⟨g4, 0, none⟩) ∧ u6 = .bool ok ∧ Aside0 (EachI b mb B n1 go nx M0 J j g4 k m ok wr)) (fun _ u6 wr => lenAt wr b + okN u6)
  case atStart => exact ⟨0, g3, k, m, ok, rfl, rfl, HE0⟩
  case round =>
    clear HE0
    obtain ⟨j, g4, k, m, ok, rfl, rfl, HS⟩ := hrel
    cases ok with
    | false =>
      go_wp2
      refine bodyPost_end (results_none rfl _ _ _) rfl ⟨rfl, Or.inl ⟨j, HS.out.len, ?_, HS.out.jj, ?_⟩⟩
      · have := HS.out.ok
        cases hb : best (leftN j M0) with
        | none => rfl
        | some x => rw [hb] at this; cases this
      · have := HS.out.ok
        cases hb : best (leftN j M0) with
        | none => exact HS.out.none hb
        | some x => rw [hb] at this; cases this
    | true =>
      have HX : Aside0 (∃ x, best (leftN j M0) = some x) := ⟨by
        have := HS.out.ok
        cases hb : best (leftN j M0) with
        | none => rw [hb] at this; cases this
        | some x => exact ⟨x, rfl⟩⟩
      obtain ⟨x, hx⟩ := HX.out
      have HX2 := Aside0.mk hx
      obtain ⟨hk, hm, hax⟩ := HS.out.some x hx
      subst hk hm
      have HAX := Aside0.mk hax
      have HSQ := Aside0.mk (seqN_succ j M0 x HS.out.len hx)
      have HSL : Aside0 ((seqN j M0).length < M0.length) := ⟨seqN_lt HI0.out HS.out.len hx⟩
      have HLEN : Aside0 (lenAt wr b + 1 = (rem (leftN j M0) x.id).length + 1) := ⟨by rw [hax.len]⟩
      clear hx hax HX
      have hb4 := HS.out.box
      have x0 : wr.cell? ⟨g4, 0, none⟩ = some (.int .i8 x.key) := by simp only [World.cell?, hb4]; rfl
      have x1 : wr.cell? ⟨g4, 1, none⟩ = some (.int .i64 x.mark) := by simp only [World.cell?, hb4]; rfl
      clear hb4
      go_upto_region 3 with fail
      refine (wpIn_wide (n := k0 + 1)).1 ?_
      obtain ⟨fn, tmps, assign, body, hy, hR⟩ := HY.out _ x _ HS.out.jj HSL.out
      gi_wp2
      refine hR.mono ?_
      clear hR hy
      rintro r w4 (⟨rfl, hj4, hk4⟩ | ⟨rfl, hj4, hk4⟩)
      · have HV := Aside0.mk (And.intro hj4 hk4)
        clear hj4 hk4
        have HGO : Aside0 (∃ v, wr.heap[go]? = some (.cells #[v] 36 (0, 0))) := ⟨by obtain ⟨v, hv, _⟩ := HF.out _ _ HS.out.jj; exact ⟨v, hv⟩⟩
        have hb5 : w4.heap[g4]? = some (.cells (aT x.key x.mark) 27 (0, 0)) := (HV.out.2.same HS.out.box HS.out.fr).trans HS.out.box
        have HA4 : Aside0 (Ax w4 b mb B nx (leftN (j + 1) M0)) := ⟨by obtain ⟨v, hv⟩ := HGO.out; rw [HSQ.out.2.1]; exact HAX.out.yield HV.out.2 hv⟩
        have HJ4 : Aside0 (J (seqN (j + 1) M0) w4) := ⟨by rw [HSQ.out.1]; exact HV.out.1⟩
        have HLE : Aside0 (n1 ≤ w4.heap.size) := ⟨by have := HS.out.lt; have := (Array.getElem?_eq_some_iff.1 hb5).1; omega⟩
        replace x0 : w4.cell? ⟨g4, 0, none⟩ = some (.int .i8 x.key) := by simp only [World.cell?, hb5]; rfl
        replace x1 : w4.cell? ⟨g4, 1, none⟩ = some (.int .i64 x.mark) := by simp only [World.cell?, hb5]; rfl
        clear hb5 HV HGO HAX
        gi_wp2
        go_upto_region 2 with fail
        clear x0 x1
        have HB5 : Aside0 (Below w4.heap.size w4 (w4.alloc (.cells (aT x.key x.mark) 27))) := ⟨(Below.refl _ _).alloc (Nat.le_refl _) _⟩
        have HJ5 : Aside0 (J (seqN (j + 1) M0) (w4.alloc (.cells (aT x.key x.mark) 27)) ∧ Fr (w4.alloc (.cells (aT x.key x.mark) 27)) go w4.heap.size) := ⟨HJ.out _ _ _ HJ4.out (Tr.of_below HB5.out), by obtain ⟨v, hv, _⟩ := HF.out _ _ HJ4.out; exact HFR.out _ _ _ HJ4.out HB5.out _ rfl (Array.getElem?_eq_some_iff.1 hv).1⟩
        have HA5 := Aside0.mk (HA4.out.below HB5.out)
        have HK5 : Aside0 ((w4.alloc (.cells (aT x.key x.mark) 27)).heap[w4.heap.size]? = some (.cells (aT x.key x.mark) 27 (0, 0))) := ⟨World.alloc_heap_new _ _⟩
        try change Code.wp _ _ _ _ (w4.alloc (.cells (aT x.key x.mark) 27))
        clear HB5 HJ4 HA4
        generalize w4.alloc (.cells (aT x.key x.mark) 27) = w5 at HJ5 HA5 HK5 ⊢
        generalize w4.heap.size = g5 at HJ5 HK5 HLE ⊢
        go_wp2_with (first
          | (go_at_call 16; refine (Pop_any HA5.out).mono ?_; rintro r w6 ⟨k6, m6, id6, ok6, rfl, hp⟩; have HP := Aside0.mk hp; clear hp; have HBX : Aside0 (w6.heap[g5]? = some (.cells (aT x.key x.mark) 27 (0, 0)) ∧ Fr w6 go g5 ∧ J (seqN (j + 1) M0) w6) := ⟨by obtain ⟨v, hv, _⟩ := HF.out _ _ HJ5.out.1; obtain ⟨hlb, hlm⟩ := HB.out; refine ⟨HP.out.ag.box HK5.out (fun hc => ?_) (fun hc => ?_) ⟨by decide, by decide⟩, (Tr.of_ag (n1 := n1) HP.out.ag).fr hv hlb hlm HJ5.out.2, HJ.out _ _ _ HJ5.out.1 (Tr.of_ag HP.out.ag)⟩; (obtain ⟨u, nn, ee, ha, _⟩ := HA5.out; have h1 := ha.hq.hp.blk; have h2 := HK5.out; rw [hc] at h2; rw [h1] at h2; injection h2 with h2; injection h2 with _ h2; exact absurd h2 (by decide)); (obtain ⟨u, nn, ee, ha, _⟩ := HA5.out; obtain ⟨N, D, h3, _⟩ := ha.mp; obtain ⟨es, cl, h1⟩ := own_block h3; have h2 := HK5.out; rw [hc] at h2; rw [h1] at h2; cases h2)⟩)
          | ((with_reducible refine gate_store (t := 27) (p := 4) rfl ?_); refine store_blk rfl 27 (.tmp 4) (.tmp 17) rfl g5 0 (aT k6 m6) (aT x.key x.mark) 27 rfl rfl HBX.out.1 (by simp) (by kernel_rfl) (by simp [Value.oneCell']) ?_; intro w9 hw9 hb9; have H9 := Aside0.mk (And.intro hw9 hb9); clear hw9 hb9))
        have HTR : Aside0 (Tr b mb B n1 go w6 w9) := ⟨by rw [H9.out.1]; exact Tr.of_set HBX.out.1 HLE.out HBX.out.2.1 _ _⟩
        have HAX9 : Aside0 (∀ M, Ax w6 b mb B nx M → Ax w9 b mb B nx M) := ⟨fun M hM => by rw [H9.out.1]; exact hM.far HBX.out.1 ⟨by decide, by decide, by decide⟩ _ _⟩
        go_roundw
        case rel => exact ⟨j + 1, g5, k6, m6, ok6, rfl, rfl, ⟨by
          obtain ⟨v, hv, _⟩ := HF.out _ _ HBX.out.2.2
          exact mkEach HSQ.out.2.2 (by rw [HSQ.out.2.1]; exact HS.out.inc.sublist List.filter_sublist) (HJ.out _ _ _ HBX.out.2.2 HTR.out) H9.out.2 HLE.out (HTR.out.fr hv HB.out.1 HB.out.2 HBX.out.2.1) HP.out HAX9.out⟩⟩
        case measure =>
          exact meas_pop (n := lenAt wr b + 1) (by rw [HSQ.out.2.1]; exact HS.out.inc.sublist List.filter_sublist) HP.out HAX9.out (by rw [HLEN.out, HSQ.out.2.1])
      · have HV := Aside0.mk (And.intro hj4 hk4)
        clear hj4 hk4
        gi_wp2
        go_wp2
        (try simp only [Exit.inBlock, Exit.then])
        refine bodyPost_ret (results_none rfl _ _ _) rfl ⟨rfl, Or.inr ⟨j, HSQ.out.2.2, by rw [HSQ.out.1]; exact HV.out.1, ?_⟩⟩
        obtain ⟨v, hv, _⟩ := HF.out _ _ HS.out.jj
        rw [HSQ.out.2.1]
        exact HAX.out.yield HV.out.2 hv
end Go.Proofs.Ythjppjcmapgkpaa.QAg
