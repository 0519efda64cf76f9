/- Lane: VAg, WAg, XAg, YAg joined. -/
import Derived.Test.YthjppjcmapgkpaaUAg
/- Agenda: entries by their numbers beside the heap: plainly. -/
namespace Go.Proofs.Ythjppjcmapgkpaa.QAg
set_option linter.unusedVariables false
set_option linter.unusedSimpArgs false
/-- The heap's entries e, and the same by their numbers: M. -/
structure Inv (nx : Int) (n : Nat) (e : Nat → En) (M : List En) : Prop where
  mem : ∀ x, x ∈ M ↔ ∃ i, i < n ∧ e i = x
  inj : ∀ i j, i < n → j < n → (e i).id = (e j).id → i = j
  inc : M.Pairwise (fun x y => x.id < y.id)
  rng : ∀ x, x ∈ M → 1 ≤ x.id ∧ x.id < nx
  len : M.length = n
  nx1 : 1 ≤ nx
def idg (x : En) : Int × Nat := (x.id, x.g)
def rem (M : List En) (k : Int) : List En := M.filter (fun x => decide (x.id ≠ k))
def setM (M : List En) (y : En) : List En := M.map (fun x => if x.id = y.id then y else x)
theorem Inv.start (e : Nat → En) : Inv 1 0 e [] := ⟨fun x => by simp, fun i j hi => by omega, List.Pairwise.nil, fun x hx => by simp at hx, rfl, by omega⟩
theorem Inv.same {nx : Int} {n : Nat} {e e' : Nat → En} {M : List En} (h : Inv nx n e M) (s : Same n e e') : Inv nx n e' M := by
  refine ⟨fun x => ?_, s.inj h.inj, h.inc, h.rng, h.len, h.nx1⟩
  rw [h.mem]
  constructor
  · rintro ⟨i, hi, rfl⟩; exact s.fwd i hi
  · rintro ⟨i, hi, rfl⟩; exact s.bwd i hi
theorem Inv.at {nx : Int} {n : Nat} {e : Nat → En} {M : List En} (h : Inv nx n e M) {i : Nat} (hi : i < n) : e i ∈ M := (h.mem _).2 ⟨i, hi, rfl⟩
theorem Inv.push {nx : Int} {n : Nat} {e : Nat → En} {M : List En} (h : Inv nx n e M) (x : En) (hx : x.id = nx) : Inv (nx + 1) (n + 1) (psh e n x) (M ++ [x]) := by
  refine ⟨fun y => ?_, fun i j hi hj hij => ?_, ?_, fun y hy => ?_, by rw [List.length_append, h.len]; rfl, by have := h.nx1; omega⟩
  · rw [List.mem_append, List.mem_singleton, h.mem]
    constructor
    · rintro (⟨i, hi, rfl⟩ | rfl)
      · exact ⟨i, by omega, psh_old _ _ (by omega)⟩
      · exact ⟨n, by omega, psh_new _ _ _⟩
    · rintro ⟨i, hi, rfl⟩
      by_cases e1 : i = n
      · subst e1; exact Or.inr (psh_new _ _ _)
      · exact Or.inl ⟨i, by omega, (psh_old _ _ e1).symm⟩
  · by_cases e1 : i = n
    · by_cases e2 : j = n
      · omega
      · exfalso
        rw [e1, psh_new, psh_old _ _ e2, hx] at hij
        have := (h.rng _ (h.at (i := j) (by omega))).2
        omega
    · by_cases e2 : j = n
      · exfalso
        rw [e2, psh_new, psh_old _ _ e1, hx] at hij
        have := (h.rng _ (h.at (i := i) (by omega))).2
        omega
      · rw [psh_old _ _ e1, psh_old _ _ e2] at hij
        exact h.inj i j (by omega) (by omega) hij
  · rw [List.pairwise_append]
    refine ⟨h.inc, List.pairwise_singleton _ _, fun y hy z hz => ?_⟩
    rw [List.mem_singleton] at hz
    rw [hz, hx]
    exact (h.rng y hy).2
  · rcases List.mem_append.1 hy with h1 | h1
    · have := h.rng y h1; omega
    · rw [List.mem_singleton] at h1
      rw [h1, hx]
      have := h.nx1
      omega
theorem mem_rem {M : List En} {k : Int} {x : En} : x ∈ rem M k ↔ x ∈ M ∧ x.id ≠ k := by unfold rem; rw [List.mem_filter]; simp
theorem rem_len : ∀ {M : List En}, M.Pairwise (fun x y => x.id < y.id) → ∀ {x : En}, x ∈ M → (rem M x.id).length + 1 = M.length
  | [], _, x, hx => by simp at hx
  | y :: M, hp, x, hx => by
    rw [List.pairwise_cons] at hp
    by_cases e : y.id = x.id
    · have e1 : rem (y :: M) x.id = M := by
        unfold rem
        rw [List.filter_cons_of_neg (by simp [e])]
        exact List.filter_eq_self.2 (fun z hz => by have := hp.1 z hz; simp; omega)
      rw [e1]; rfl
    · have hxm : x ∈ M := by
        rcases List.mem_cons.1 hx with h1 | h1
        · exact absurd (by rw [h1]) e
        · exact h1
      have := rem_len hp.2 hxm
      unfold rem at *
      rw [List.filter_cons_of_pos (by simp [e])]
      simp only [List.length_cons]
      omega
theorem RemR.first {n : Nat} {e e' : Nat → En} {i : Nat} (r : RemR n e i e') (hi : i < n + 1) : ∃ e1, Same n e1 e' ∧ (∀ j, j < n → ∃ k, k < n + 1 ∧ k ≠ i ∧ e1 j = e k) ∧ (∀ k, k < n + 1 → k ≠ i → ∃ j, j < n ∧ e1 j = e k) ∧ (∀ a b, a < n → b < n → (∀ x y, x < n + 1 → y < n + 1 → (e x).id = (e y).id → x = y) → (e1 a).id = (e1 b).id → a = b) := by
  by_cases hin : i = n
  · refine ⟨e, by rw [r.1 hin]; exact Same.refl _ _, fun j hj => ⟨j, by omega, by omega, rfl⟩, fun k hk hne => ⟨k, by omega, rfl⟩, fun a b ha hb hh hab => hh a b (by omega) (by omega) hab⟩
  · refine ⟨swp e i n, (r.2 hin).same (by omega), fun j hj => ?_, fun k hk hne => ?_, fun a b ha hb hh hab => ?_⟩
    · by_cases hji : j = i
      · subst hji; exact ⟨n, by omega, by omega, swp_l _ _ _⟩
      · exact ⟨j, by omega, hji, swp_o _ hji (by omega)⟩
    · by_cases hkn : k = n
      · exact ⟨i, by omega, by rw [hkn]; exact swp_l _ _ _⟩
      · exact ⟨k, by omega, swp_o _ hne hkn⟩
    · by_cases h1 : a = i
      · by_cases h2 : b = i
        · omega
        · rw [h1, swp_l, swp_o _ h2 (by omega)] at hab
          have := hh n b (by omega) (by omega) hab
          omega
      · by_cases h2 : b = i
        · rw [h2, swp_l, swp_o _ h1 (by omega)] at hab
          have := hh a n (by omega) (by omega) hab
          omega
        · rw [swp_o _ h1 (by omega), swp_o _ h2 (by omega)] at hab
          exact hh a b (by omega) (by omega) hab
theorem Inv.out {nx : Int} {n i : Nat} {e e' : Nat → En} {M : List En} (h : Inv nx (n + 1) e M) (hi : i < n + 1) (r : RemR n e i e') : Inv nx n e' (rem M (e i).id) := by
  obtain ⟨e1, hs, h1, h2, h3⟩ := r.first hi
  refine Inv.same (e := e1) ⟨fun x => ?_, fun a b ha hb hab => h3 a b ha hb h.inj hab, h.inc.sublist List.filter_sublist, fun x hx => h.rng x (mem_rem.1 hx).1, by have := rem_len h.inc (h.at hi); have := h.len; omega, h.nx1⟩ hs
  rw [mem_rem, h.mem]
  constructor
  · rintro ⟨⟨k, hk, rfl⟩, hne⟩
    exact h2 k hk (fun hc => hne (by rw [hc]))
  · rintro ⟨j, hj, rfl⟩
    obtain ⟨k, hk, hne, e2⟩ := h1 j hj
    rw [e2]
    exact ⟨⟨k, hk, rfl⟩, fun hc => hne (h.inj k i hk hi hc)⟩
theorem heap_out {n i : Nat} {e e' : Nat → En} (h : HP (n + 1) e) (hi : i < n + 1) (r : RemR n e i e') : HP n e' := by
  by_cases hin : i = n
  · rw [r.1 hin]; exact fun k h0 hk => h k h0 (by omega)
  · obtain ⟨e1, f, d1, d2, d3⟩ := r.2 hin
    refine fix_heap (i := i) (by omega) (fun k h0 hk hki hpk => ?_) (fun k h0 hk hpk h0i => ?_) d1 d2 d3
    · have := par_lt h0
      rw [swp_o _ hki (by omega), swp_o _ hpk (by omega)]
      exact h k h0 (by omega)
    · have := par_lt h0
      have := par_lt h0i
      rw [swp_o _ (by omega) (by omega), swp_o _ (by omega) (by omega)]
      have g1 := h k h0 (by omega)
      rw [hpk] at g1
      exact ltE_neg g1 (h i h0i (by omega))
theorem heap_set {n i : Nat} {e e' : Nat → En} {y : En} (h : HP n e) (hi : i < n) (r : FixR n (psh e i y) i e') : HP n e' := by
  obtain ⟨e1, f, d1, d2, d3⟩ := r
  refine fix_heap (i := i) hi (fun k h0 hk hki hpk => ?_) (fun k h0 hk hpk h0i => ?_) d1 d2 d3
  · rw [psh_old _ _ hki, psh_old _ _ hpk]
    exact h k h0 hk
  · have := par_lt h0
    have := par_lt h0i
    rw [psh_old _ _ (by omega), psh_old _ _ (by omega)]
    have g1 := h k h0 hk
    rw [hpk] at g1
    exact ltE_neg g1 (h i h0i hi)
theorem heap_push {n : Nat} {e e' : Nat → En} {x : En} (h : HP n e) (r : UpR LE (psh e n x) n e') : HP (n + 1) e' := by
  refine up_heap r (Nat.lt_succ_self n) (fun k h0 hk hkn => ?_) (fun k h0 hk hpk h0n => ?_)
  · have := par_lt h0
    rw [psh_old _ _ hkn, psh_old _ _ (by omega)]
    exact h k h0 (by omega)
  · have := par_lt h0
    omega
theorem Inv.set {nx : Int} {n i : Nat} {e : Nat → En} {M : List En} (h : Inv nx n e M) (hi : i < n) (y : En) (hy : y.id = (e i).id) : Inv nx n (psh e i y) (setM M y) := by
  refine ⟨fun x => ?_, fun a b ha hb hab => ?_, ?_, fun x hx => ?_, by unfold setM; rw [List.length_map]; exact h.len, h.nx1⟩
  · unfold setM
    rw [List.mem_map]
    constructor
    · rintro ⟨z, hz, rfl⟩
      by_cases hzi : z.id = y.id
      · rw [if_pos hzi]; exact ⟨i, hi, psh_new _ _ _⟩
      · rw [if_neg hzi]
        obtain ⟨j, hj, rfl⟩ := (h.mem z).1 hz
        exact ⟨j, hj, psh_old _ _ (fun hc => hzi (by rw [hc, hy]))⟩
    · rintro ⟨j, hj, rfl⟩
      by_cases hji : j = i
      · subst hji
        refine ⟨e j, h.at hi, ?_⟩
        rw [if_pos hy.symm, psh_new]
      · refine ⟨e j, h.at hj, ?_⟩
        rw [psh_old _ _ hji, if_neg (fun hc => hji (h.inj j i hj hi (hc.trans hy)))]
  · have e1 : ∀ k, (psh e i y k).id = (e k).id := fun k => by
      by_cases hk : k = i
      · rw [hk, psh_new, hy]
      · rw [psh_old _ _ hk]
    rw [e1, e1] at hab
    exact h.inj a b ha hb hab
  · unfold setM
    rw [List.pairwise_map]
    refine h.inc.imp (fun {a b} hab => ?_)
    have e1 : ∀ z : En, (if z.id = y.id then y else z).id = z.id := fun z => by
      by_cases hz : z.id = y.id
      · rw [if_pos hz]; exact hz.symm
      · rw [if_neg hz]
    rw [e1, e1]
    exact hab
  · unfold setM at hx
    obtain ⟨z, hz, rfl⟩ := List.mem_map.1 hx
    by_cases hzi : z.id = y.id
    · rw [if_pos hzi, ← hzi]; exact h.rng z hz
    · rw [if_neg hzi]; exact h.rng z hz
/-! ### The map's list -/
theorem idg_push (M : List En) (x : En) : (M ++ [x]).map idg = M.map idg ++ [(x.id, x.g)] := by rw [List.map_append]; rfl
theorem idg_rem (M : List En) (k : Int) : (M.map idg).filter (fun x => decide (x.1 ≠ k)) = (rem M k).map idg := by
  unfold rem
  rw [List.filter_map]
  rfl
theorem Inv.one {nx : Int} {n : Nat} {e : Nat → En} {M : List En} (h : Inv nx n e M) {x y : En} (hx : x ∈ M) (hy : y ∈ M) (hxy : x.id = y.id) : x = y := by
  obtain ⟨i, hi, rfl⟩ := (h.mem x).1 hx
  obtain ⟨j, hj, rfl⟩ := (h.mem y).1 hy
  rw [h.inj i j hi hj hxy]
theorem idg_set {nx : Int} {n i : Nat} {e : Nat → En} {M : List En} (h : Inv nx n e M) (hi : i < n) (y : En) (hy : y.id = (e i).id) (hg : y.g = (e i).g) : (setM M y).map idg = M.map idg := by
  unfold setM
  rw [List.map_map]
  refine List.map_congr_left (fun z hz => ?_)
  show idg (if z.id = y.id then y else z) = idg z
  by_cases hzi : z.id = y.id
  · rw [if_pos hzi]
    have := h.one hz (h.at hi) (hzi.trans hy)
    subst this
    unfold idg
    rw [hy, hg]
  · rw [if_neg hzi]
theorem idg_keys (M : List En) : (M.map idg).map Prod.fst = M.map (·.id) := by rw [List.map_map]; rfl
theorem find_at {nx : Int} {n : Nat} {e : Nat → En} {M : List En} (h : Inv nx n e M) (k : Int) : lookL (M.map idg) k = (M.find? (fun x => decide (x.id = k))).map (·.g) := by
  unfold lookL
  rw [List.find?_map, Option.map_map]
  congr 1
/-! ### What comes first -/
def better : Option En → En → Option En
  | none, x => some x
  | some y, x => if x.key < y.key then some x else some y
def best (M : List En) : Option En := M.foldl better none
theorem best_go : ∀ (M : List En) (a : En), ∃ x, M.foldl better (some a) = some x ∧ (x = a ∨ x ∈ M) ∧ x.key ≤ a.key ∧ (x ≠ a → x.key < a.key) ∧ (∀ y ∈ M, x.key ≤ y.key) ∧ (M.Pairwise (fun x y => x.id < y.id) → x ≠ a → ∀ y ∈ M, y.key = x.key → x.id ≤ y.id)
  | [], a => ⟨a, rfl, Or.inl rfl, Int.le_refl _, fun h => absurd rfl h, fun y hy => by simp at hy, fun _ h => absurd rfl h⟩
  | z :: M, a => by
    rw [List.foldl_cons]
    by_cases hz : z.key < a.key
    · have e1 : better (some a) z = some z := if_pos hz
      rw [e1]
      obtain ⟨x, h1, h2, h3, h4, h5, h6⟩ := best_go M z
      refine ⟨x, h1, ?_, by omega, fun _ => by omega, fun y hy => ?_, fun hp _ y hy hyk => ?_⟩
      · rcases h2 with h2 | h2
        · exact Or.inr (by rw [h2]; exact List.mem_cons_self)
        · exact Or.inr (List.mem_cons_of_mem _ h2)
      · rcases List.mem_cons.1 hy with h7 | h7
        · rw [h7]; exact h3
        · exact h5 y h7
      · rw [List.pairwise_cons] at hp
        by_cases hxz : x = z
        · rcases List.mem_cons.1 hy with h7 | h7
          · rw [h7, hxz]; exact Int.le_refl _
          · rw [hxz]; exact Int.le_of_lt (hp.1 y h7)
        · rcases List.mem_cons.1 hy with h7 | h7
          · exfalso
            have := h4 hxz
            rw [h7] at hyk
            omega
          · exact h6 hp.2 hxz y h7 hyk
    · have e1 : better (some a) z = some a := if_neg hz
      rw [e1]
      obtain ⟨x, h1, h2, h3, h4, h5, h6⟩ := best_go M a
      refine ⟨x, h1, ?_, h3, h4, fun y hy => ?_, fun hp hxa y hy hyk => ?_⟩
      · rcases h2 with h2 | h2
        · exact Or.inl h2
        · exact Or.inr (List.mem_cons_of_mem _ h2)
      · rcases List.mem_cons.1 hy with h7 | h7
        · rw [h7]; omega
        · exact h5 y h7
      · rw [List.pairwise_cons] at hp
        rcases List.mem_cons.1 hy with h7 | h7
        · exfalso
          have := h4 hxa
          rw [h7] at hyk
          omega
        · exact h6 hp.2 hxa y h7 hyk
theorem best_spec {M : List En} (hp : M.Pairwise (fun x y => x.id < y.id)) (hne : M ≠ []) : ∃ x, best M = some x ∧ x ∈ M ∧ ∀ y ∈ M, ltE y x = false := by
  cases M with
  | nil => exact absurd rfl hne
  | cons a M =>
    rw [List.pairwise_cons] at hp
    obtain ⟨x, h1, h2, h3, h4, h5, h6⟩ := best_go M a
    refine ⟨x, h1, ?_, fun y hy => ?_⟩
    · rcases h2 with h2 | h2
      · rw [h2]; exact List.mem_cons_self
      · exact List.mem_cons_of_mem _ h2
    · rw [ltE_not]
      rcases List.mem_cons.1 hy with h7 | h7
      · rw [h7]
        by_cases hxa : x = a
        · rw [hxa]; omega
        · have := h4 hxa; omega
      · have g1 := h5 y h7
        by_cases hxa : x = a
        · have := hp.1 y h7
          rw [hxa] at g1 ⊢
          omega
        · have g2 := h6 hp.2 hxa y h7
          omega
theorem Inv.best {nx : Int} {n : Nat} {e : Nat → En} {M : List En} (h : Inv nx n e M) (hp : HP n e) (hn : 0 < n) : QAg.best M = some (e 0) := by
  obtain ⟨x, h1, h2, h3⟩ := best_spec h.inc (fun hc => by have := h.len; rw [hc] at this; simp at this; omega)
  rw [h1]
  obtain ⟨i, hi, rfl⟩ := (h.mem x).1 h2
  have g1 := h3 _ (h.at hn)
  have g2 := root_least hp i hi
  rw [ltE_not] at g1 g2
  have : (e i).id = (e 0).id := by omega
  rw [h.inj i 0 hi hn this]
theorem best_nil : best [] = none := rfl
theorem best_none {M : List En} (hp : M.Pairwise (fun x y => x.id < y.id)) (h : best M = none) : M = [] := by
  by_cases hc : M = []
  · exact hc
  · obtain ⟨x, h1, _⟩ := best_spec hp hc
    rw [h1] at h
    cases h
end Go.Proofs.Ythjppjcmapgkpaa.QAg
/- Agenda: First, Pop. Written by a program of this repo (tools/gen_ag6.py). -/
namespace Go.Proofs.Ythjppjcmapgkpaa.QAg
open Go.RowKit Go.Maps Go.Proofs.YthjppjcmapgkpaaW.PrintWords Go.Proofs.YthjppjcmapgkpaaW.PrintLast Go.Proofs.YthjppjcmapgkpaaW.PrintMore
set_option linter.unusedVariables false
set_option linter.unusedSimpArgs false
/-- The agenda at b, its map at mb, all else of it from B on: the entries M, by their numbers. -/
def Ax (w : World) (b mb B : Nat) (nx : Int) (M : List En) : Prop := ∃ v n e, Am w b mb B fLess v nx n e (M.map idg) ∧ Inv nx n e M ∧ HP n e ∧ (n : Int) < nx ∧ nx ≤ 100000
theorem Ax.below {w w' : World} {b mb B : Nat} {nx : Int} {M : List En} (h : Ax w b mb B nx M) (k : Below w.heap.size w w') : Ax w' b mb B nx M := by
  obtain ⟨v, n, e, h1, h2⟩ := h
  exact ⟨v, n, e, h1.below k, h2⟩
theorem Ag.box {b mb B g : Nat} {w w' : World} {cur : Array Value} {t : TypeId} (h : Ag b mb B w w') (hg : w.heap[g]? = some (.cells cur t (0, 0))) (hb : g ≠ b) (hm : g ≠ mb) (ht : t ≠ 73 ∧ t ≠ 75) : w'.heap[g]? = some (.cells cur t (0, 0)) := by
  rcases h.block g (Array.getElem?_eq_some_iff.1 hg).1 with h1 | h1 | h1 | ⟨_, c, t', h1, h2⟩
  · exact h1.trans hg
  · exact absurd h1 hb
  · exact absurd h1 hm
  · rw [hg] at h1
    injection h1 with h1
    injection h1 with _ h1
    subst h1
    rcases h2 with h2 | h2
    · exact absurd h2 ht.1
    · exact absurd h2 ht.2
theorem size_alloc1 (w : World) (o : Obj) : (w.alloc o).heap.size = w.heap.size + 1 := by show (w.heap.push _).size = _; rw [Array.size_push]
theorem Hq.keep {w w' : World} {b B : Nat} {f m v : Value} {nx : Int} {n : Nat} {e : Nat → En} (h : Hq w b B f m v nx n e) (hs : w.heap.size ≤ w'.heap.size) (hk : ∀ (i : Nat) (cur : Array Value) (t : TypeId), w.heap[i]? = some (.cells cur t (0, 0)) → (t = 63 ∨ t = 73 ∨ t = 75) → w'.heap[i]? = w.heap[i]?) : Hq w' b B f m v nx n e :=
  ⟨⟨(hk _ _ _ h.hp.blk (by decide)).trans h.hp.blk, h.hp.row.of (fun g cur _ hg => hk _ _ _ hg (by decide)), fun i hi => (hk _ _ _ (h.hp.ent i hi) (by decide)).trans (h.hp.ent i hi), h.hp.inj, h.hp.lt, Nat.le_trans h.hp.sz hs, h.hp.n6⟩, h.bd⟩
theorem Am.keep {w w' : World} {b mb B : Nat} {f v : Value} {nx : Int} {n : Nat} {e : Nat → En} {l : List (Int × Nat)} (h : Am w b mb B f v nx n e l) (hs : w.heap.size ≤ w'.heap.size) (hk : ∀ (i : Nat) (cur : Array Value) (t : TypeId), w.heap[i]? = some (.cells cur t (0, 0)) → (t = 63 ∨ t = 73 ∨ t = 75) → w'.heap[i]? = w.heap[i]?) (hm : ∀ es cl, w.heap[mb]? = some (.map es cl) → w'.heap[mb]? = w.heap[mb]?) : Am w' b mb B f v nx n e l := by
  obtain ⟨N, D, h1, h2, h3⟩ := h.mp
  obtain ⟨es, cl, hb⟩ := own_block h1
  exact ⟨h.hq.keep hs hk, ⟨N, D, ownsMap_of h1 (hm es cl hb), h2, h3⟩, h.ml⟩
/-- A store into a block of another type. -/
theorem Ax.far {w : World} {b mb B : Nat} {nx : Int} {M : List En} (h : Ax w b mb B nx M) {g : Nat} {C : Array Value} {t : TypeId} (hg : w.heap[g]? = some (.cells C t (0, 0))) (ht : t ≠ 63 ∧ t ≠ 73 ∧ t ≠ 75) (o : Nat) (vs : List Value) : Ax (w.setCells g o vs) b mb B nx M := by
  obtain ⟨v, n, e, h1, h2⟩ := h
  refine ⟨v, n, e, h1.keep (by rw [(os_setCells vs o w).2.2.2]; exact Nat.le_refl _) (fun i cur t' hi h3 => far_setCells (fun hc => ?_) vs o w) (fun es cl hm => far_setCells (fun hc => ?_) vs o w), h2⟩
  · rw [hc, hg] at hi
    injection hi with hi
    injection hi with _ hi
    subst hi
    rcases h3 with h3 | h3 | h3
    · exact ht.1 h3
    · exact ht.2.1 h3
    · exact ht.2.2 h3
  · rw [hc, hg] at hm
    cases hm
/-- A store into a block that was made since. -/
theorem Ag.setNew {w0 w : World} {b mb B g : Nat} (h : Ag b mb B w0 w) (hg : w0.heap.size ≤ g) (o : Nat) (vs : List Value) : Ag b mb B w0 (w.setCells g o vs) := by
  obtain ⟨e1, e2, e3, e4⟩ := os_setCells (g := g) vs o w
  have hf : ∀ i, i < w0.heap.size → (w.setCells g o vs).heap[i]? = w.heap[i]? := fun i hi => far_setCells (by omega) vs o w
  exact ⟨e1.trans h.os, e2.trans h.tape, e3.trans h.output, by rw [e4]; exact h.size, fun i hi => by rw [hf i hi]; exact h.block i hi, fun i cur t hi => by rw [hf i (Array.getElem?_eq_some_iff.1 hi).1]; exact h.keep i cur t hi⟩
/-- A box of one's own, behind the agenda. -/
theorem Ax.lt {w : World} {b mb B : Nat} {nx : Int} {M : List En} (h : Ax w b mb B nx M) : b < w.heap.size ∧ mb < w.heap.size := by
  obtain ⟨v, n, e, h1, h2⟩ := h
  have := h1.hq.hp.lt
  have := h1.hq.hp.sz
  have := h1.ml.1
  exact ⟨by omega, by omega⟩
set_option maxRecDepth 100000 in
set_option maxHeartbeats 2000000 in
theorem First_none {w : World} {b mb B : Nat} {nx : Int} (h : Ax w b mb B nx []) : Calls Try.prog 19 #[.pointer (some ⟨b, 0, none⟩)] w fun r w' => r = .returned (.tuple #[.agg (aT 0 0), .int .i64 0, .bool false]) ∧ Below w.heap.size w w' := by
  have HW1 : Aside0 (Below w.heap.size w (w.alloc (.cells (aT 0 0) 27))) := ⟨(Below.refl _ _).alloc (Nat.le_refl _) _⟩
  have HB1 : Aside0 ((w.alloc (.cells (aT 0 0) 27)).heap[w.heap.size]? = some (.cells (aT 0 0) 27 (0, 0))) := ⟨World.alloc_heap_new _ _⟩
  obtain ⟨v, n, e, h1, h2, _⟩ := h.below HW1.out
  have hn : n = 0 := h2.len.symm
  subst hn
  have HF : Aside0 (fstP 0 e = .pointer none) := ⟨if_pos rfl⟩
  have HA := Aside0.mk h1
  clear h1 h2 h
  go_enter Try.func19, Try.ntmps19
  go_upto_region 1 with fail
  generalize w.alloc (.cells (aT 0 0) 27) = w1 at HW1 HB1 HA ⊢
  go_wp2_with (first
    | (go_at_call 36; refine (first_calls HA.out.hq.hp).mono ?_; rewrite [HF.out]; rintro r w2 ⟨rfl, hw2⟩; replace hw2 := hw2.symm; subst hw2)
    | (go_at_call 38; refine (told_none _).mono ?_; rintro r w3 ⟨rfl, hw3⟩; have HB3 := Aside0.mk (obj_below hw3 HB1.out); have HW3 := Aside0.mk (HW1.out.trans (hw3.mono HW1.out.size)); clear hw3)
    | ((with_reducible refine gate_store (t := 27) (p := 2) rfl ?_); refine store_blk rfl 27 (.tmp 2) (.tmp 8) rfl w.heap.size 0 (aT 0 0) (aT 0 0) 27 rfl rfl HB3.out (by simp) (by kernel_rfl) (by simp [Value.oneCell']) ?_; intro w9 hw9 hb9; have HS : Aside0 (w9.heap[w.heap.size]? = some (.cells (aT 0 0) 27 (0, 0)) ∧ Below w.heap.size w w9) := ⟨hb9, by rw [hw9]; exact below_setCells (Nat.le_refl _) _ _ _ HW3.out⟩; clear hw9 hb9))
  exact bodyPost_ret (res_ctt (t := 27) rfl rfl rfl rfl HS.out.1 Try.underlying27 rfl (by kernel_rfl)) rfl ⟨rfl, HS.out.2⟩
set_option maxRecDepth 100000 in
set_option maxHeartbeats 2000000 in
theorem Pop_none {w : World} {b mb B : Nat} {nx : Int} (h : Ax w b mb B nx []) : Calls Try.prog 16 #[.pointer (some ⟨b, 0, none⟩)] w fun r w' => r = .returned (.tuple #[.agg (aT 0 0), .int .i64 0, .bool false]) ∧ Below w.heap.size w w' := by
  have HW1 : Aside0 (Below w.heap.size w (w.alloc (.cells (aT 0 0) 27))) := ⟨(Below.refl _ _).alloc (Nat.le_refl _) _⟩
  have HB1 : Aside0 ((w.alloc (.cells (aT 0 0) 27)).heap[w.heap.size]? = some (.cells (aT 0 0) 27 (0, 0))) := ⟨World.alloc_heap_new _ _⟩
  obtain ⟨v, n, e, h1, h2, _⟩ := h.below HW1.out
  have hn : n = 0 := h2.len.symm
  subst hn
  have HF : Aside0 (fstP 0 e = .pointer none) := ⟨if_pos rfl⟩
  have HA := Aside0.mk h1
  clear h1 h2 h
  go_enter Try.func16, Try.ntmps16
  go_upto_region 1 with fail
  generalize w.alloc (.cells (aT 0 0) 27) = w1 at HW1 HB1 HA ⊢
  go_wp2_with (first
    | (go_at_call 36; refine (first_calls HA.out.hq.hp).mono ?_; rewrite [HF.out]; rintro r w2 ⟨rfl, hw2⟩; replace hw2 := hw2.symm; subst hw2)
    | (go_at_call 38; refine (told_none _).mono ?_; rintro r w3 ⟨rfl, hw3⟩; have HB3 := Aside0.mk (obj_below hw3 HB1.out); have HW3 := Aside0.mk (HW1.out.trans (hw3.mono HW1.out.size)); clear hw3)
    | ((with_reducible refine gate_store (t := 27) (p := 2) rfl ?_); refine store_blk rfl 27 (.tmp 2) (.tmp 15) rfl w.heap.size 0 (aT 0 0) (aT 0 0) 27 rfl rfl HB3.out (by simp) (by kernel_rfl) (by simp [Value.oneCell']) ?_; intro w9 hw9 hb9; have HS : Aside0 (w9.heap[w.heap.size]? = some (.cells (aT 0 0) 27 (0, 0)) ∧ Below w.heap.size w w9) := ⟨hb9, by rw [hw9]; exact below_setCells (Nat.le_refl _) _ _ _ HW3.out⟩; clear hw9 hb9))
  exact bodyPost_ret (res_ctt (t := 27) rfl rfl rfl rfl HS.out.1 Try.underlying27 rfl (by kernel_rfl)) rfl ⟨rfl, HS.out.2⟩
set_option maxRecDepth 100000 in
set_option maxHeartbeats 2000000 in
theorem First_some {w : World} {b mb B : Nat} {nx : Int} {M : List En} (h : Ax w b mb B nx M) {x : En} (hx : best M = some x) : Calls Try.prog 19 #[.pointer (some ⟨b, 0, none⟩)] w fun r w' => r = .returned (.tuple #[.agg (aT x.key x.mark), .int .i64 x.id, .bool true]) ∧ Below w.heap.size w w' := by
  have HW1 : Aside0 (Below w.heap.size w (w.alloc (.cells (aT 0 0) 27))) := ⟨(Below.refl _ _).alloc (Nat.le_refl _) _⟩
  have HB1 : Aside0 ((w.alloc (.cells (aT 0 0) 27)).heap[w.heap.size]? = some (.cells (aT 0 0) 27 (0, 0))) := ⟨World.alloc_heap_new _ _⟩
  obtain ⟨v, n, e, h1, h2, h3, _⟩ := h.below HW1.out
  have hn : 0 < n := by
    rcases Nat.eq_zero_or_pos n with h0 | h0
    · exfalso
      have := h2.len
      rw [h0] at this
      rw [List.eq_nil_of_length_eq_zero this] at hx
      cases hx
    · exact h0
  rw [h2.best h3 hn] at hx
  injection hx with hx
  have HF : Aside0 (fstP n e = .pointer (some ⟨x.g, 0, none⟩)) := ⟨by rw [← hx]; exact if_neg (by omega)⟩
  have HA := Aside0.mk h1
  have HX : Aside0 ((w.alloc (.cells (aT 0 0) 27)).heap[x.g]? = some (.cells (aE x 0) 75 (0, 0))) := ⟨by rw [← hx]; exact h1.hq.hp.ent 0 hn⟩
  clear h1 h2 h h3 hn hx
  go_enter Try.func19, Try.ntmps19
  go_upto_region 1 with fail
  generalize w.alloc (.cells (aT 0 0) 27) = w1 at HW1 HB1 HA HX ⊢
  go_wp2_with (first
    | (go_at_call 36; refine (first_calls HA.out.hq.hp).mono ?_; rewrite [HF.out]; rintro r w2 ⟨rfl, hw2⟩; replace hw2 := hw2.symm; subst hw2)
    | (go_at_call 38; refine (told_calls x 0 HX.out).mono ?_; rintro r w3 ⟨rfl, hw3⟩; have HB3 := Aside0.mk (obj_below hw3 HB1.out); have HW3 := Aside0.mk (HW1.out.trans (hw3.mono HW1.out.size)); clear hw3)
    | ((with_reducible refine gate_store (t := 27) (p := 2) rfl ?_); refine store_blk rfl 27 (.tmp 2) (.tmp 8) rfl w.heap.size 0 (aT x.key x.mark) (aT 0 0) 27 rfl rfl HB3.out (by simp) (by kernel_rfl) (by simp [Value.oneCell']) ?_; intro w9 hw9 hb9; have HS : Aside0 (w9.heap[w.heap.size]? = some (.cells (aT x.key x.mark) 27 (0, 0)) ∧ Below w.heap.size w w9) := ⟨hb9, by rw [hw9]; exact below_setCells (Nat.le_refl _) _ _ _ HW3.out⟩; clear hw9 hb9))
  exact bodyPost_ret (res_ctt (t := 27) rfl rfl rfl rfl HS.out.1 Try.underlying27 rfl (by kernel_rfl)) rfl ⟨rfl, HS.out.2⟩
theorem OutP.ax {w w' : World} {b mb B n i : Nat} {nx : Int} {e : Nat → En} {M : List En} (h : OutP w b mb B nx n e (M.map idg) i w') (hi : i < n + 1) (h2 : Inv nx (n + 1) e M) (h3 : HP (n + 1) e) (h4 : ((n + 1 : Nat) : Int) < nx) (h5 : nx ≤ 100000) : Ax w' b mb B nx (rem M (e i).id) := by
  obtain ⟨e', v', hr, ha⟩ := h.am
  rw [idg_rem] at ha
  exact ⟨v', n, e', ha, h2.out hi hr, heap_out h3 hi hr, by omega, h5⟩
set_option maxRecDepth 100000 in
set_option maxHeartbeats 2000000 in
theorem Pop_some {w : World} {b mb B : Nat} {nx : Int} {M : List En} (h : Ax w b mb B nx M) {x : En} (hx : best M = some x) : Calls Try.prog 16 #[.pointer (some ⟨b, 0, none⟩)] w fun r w' => r = .returned (.tuple #[.agg (aT x.key x.mark), .int .i64 x.id, .bool true]) ∧ Ax w' b mb B nx (rem M x.id) ∧ Ag b mb B w w' := by
  have HW1 : Aside0 (Below w.heap.size w (w.alloc (.cells (aT 0 0) 27))) := ⟨(Below.refl _ _).alloc (Nat.le_refl _) _⟩
  have HB1 : Aside0 ((w.alloc (.cells (aT 0 0) 27)).heap[w.heap.size]? = some (.cells (aT 0 0) 27 (0, 0))) := ⟨World.alloc_heap_new _ _⟩
  have HLT : Aside0 (w.heap.size ≠ b ∧ w.heap.size ≠ mb) := ⟨by have := h.lt; omega, by have := h.lt; omega⟩
  obtain ⟨v, n0, e, h1, h2, h3, h4⟩ := h.below HW1.out
  have hn : 0 < n0 := by
    rcases Nat.eq_zero_or_pos n0 with h0 | h0
    · exfalso
      have := h2.len
      rw [h0] at this
      rw [List.eq_nil_of_length_eq_zero this] at hx
      cases hx
    · exact h0
  obtain ⟨n, rfl⟩ : ∃ n, n0 = n + 1 := ⟨n0 - 1, by omega⟩
  rw [h2.best h3 hn] at hx
  injection hx with hx
  have HF : Aside0 (fstP (n + 1) e = .pointer (some ⟨(e 0).g, 0, none⟩)) := ⟨if_neg (by omega)⟩
  have HX : Aside0 (x = e 0) := ⟨hx.symm⟩
  have HID : Aside0 (0 ≤ (e 0).id ∧ (e 0).id ≤ 1000000) := ⟨by have := h2.rng _ (h2.at hn); omega, by have := h2.rng _ (h2.at hn); omega⟩
  have HA := Aside0.mk h1
  have HN := Aside0.mk hn
  have HI := Aside0.mk (And.intro h2 (And.intro h3 h4))
  clear h1 h2 h h3 hn hx h4
  go_enter Try.func16, Try.ntmps16
  go_upto_region 1 with fail
  generalize w.alloc (.cells (aT 0 0) 27) = w1 at HW1 HB1 HA ⊢
  go_upto_region 4 with (first
    | (go_at_call 36; refine (first_calls HA.out.hq.hp).mono ?_; rewrite [HF.out]; rintro r w2 ⟨rfl, hw2⟩; replace hw2 := hw2.symm; subst hw2)
    | (go_at_call 37; refine (out_calls HA.out HN.out HID.out.1 HID.out.2).mono ?_; rintro r w3 ⟨rfl, hw3⟩; have HO := Aside0.mk hw3; clear hw3))
  have HAX : Aside0 (Ax w3 b mb B nx (rem M (e 0).id)) := ⟨HO.out.ax HN.out HI.out.1 HI.out.2.1 HI.out.2.2.1 HI.out.2.2.2⟩
  have HB2 : Aside0 (w3.heap[w.heap.size]? = some (.cells (aT 0 0) 27 (0, 0))) := ⟨HO.out.ag.box HB1.out HLT.out.1 HLT.out.2 ⟨by decide, by decide⟩⟩
  have HEN := Aside0.mk HO.out.en
  have HAG : Aside0 (Ag b mb B w w3) := ⟨(Ag.of_below HW1.out).trans HO.out.ag⟩
  clear HA HI HO HB1 HLT HW1 HF HID HN
  go_wp2_with (first
    | (go_at_call 38; refine (told_calls (e 0) n HEN.out).mono ?_; rintro r w4 ⟨rfl, hw4⟩; have HB3 := Aside0.mk (obj_below hw4 HB2.out); have HW4 := Aside0.mk hw4; clear hw4)
    | ((with_reducible refine gate_store (t := 27) (p := 2) rfl ?_); refine store_blk rfl 27 (.tmp 2) (.tmp 15) rfl w.heap.size 0 (aT (e 0).key (e 0).mark) (aT 0 0) 27 rfl rfl HB3.out (by simp) (by kernel_rfl) (by simp [Value.oneCell']) ?_; intro w9 hw9 hb9; have HS : Aside0 (w9.heap[w.heap.size]? = some (.cells (aT (e 0).key (e 0).mark) 27 (0, 0)) ∧ ∃ cs, w9 = w4.setCells w.heap.size 0 cs) := ⟨hb9, by rw [hw9]; exact ⟨_, rfl⟩⟩; clear hw9 hb9))
  obtain ⟨cs, hcs⟩ := HS.out.2
  have HG : Aside0 (Ag b mb B w w9) := ⟨by rw [hcs]; exact (HAG.out.trans (Ag.of_below HW4.out)).setNew (Nat.le_refl _) _ _⟩
  have HX9 : Aside0 (Ax w9 b mb B nx (rem M (e 0).id)) := ⟨by rw [hcs]; exact (HAX.out.below HW4.out).far HB3.out ⟨by decide, by decide, by decide⟩ _ _⟩
  have HXi := HX.out
  subst HXi
  exact bodyPost_ret (res_ctt (t := 27) rfl rfl rfl rfl HS.out.1 Try.underlying27 rfl (by kernel_rfl)) rfl ⟨rfl, HX9.out, HG.out⟩
end Go.Proofs.Ythjppjcmapgkpaa.QAg
/- Agenda: Get, Set, Drop. Written by a program of this repo (tools/gen_ag7.py). -/
namespace Go.Proofs.Ythjppjcmapgkpaa.QAg
open Go.RowKit Go.Maps Go.Proofs.YthjppjcmapgkpaaW.PrintWords Go.Proofs.YthjppjcmapgkpaaW.PrintLast Go.Proofs.YthjppjcmapgkpaaW.PrintMore
set_option linter.unusedVariables false
set_option linter.unusedSimpArgs false
def atM (M : List En) (k : Int) : Option En := M.find? (fun x => decide (x.id = k))
theorem atM_mem {M : List En} {k : Int} {x : En} (h : atM M k = some x) : x ∈ M ∧ x.id = k := by
  unfold atM at h
  exact ⟨List.mem_of_find?_eq_some h, by have := List.find?_some h; simpa using this⟩
/-- What the map tells. -/
theorem Am.tells {w : World} {b mb B : Nat} {f v : Value} {nx : Int} {n : Nat} {e : Nat → En} {M : List En} (h : Am w b mb B f v nx n e (M.map idg)) (hi : Inv nx n e M) {k : Int} (hk : (Lit.int .i64 k).wf = true) :
    (Instr.lookup 61 (.map (some mb)) (.int .i64 k) true).run Try.prog w = .ok (.tuple #[ptrO ((atM M k).map (·.g)), .bool (atM M k).isSome]) w ∧
    (Instr.lookup 61 (.map (some mb)) (.int .i64 k) false).run Try.prog w = .ok (ptrO ((atM M k).map (·.g))) w := by
  obtain ⟨N, D, h1, h2, h3⟩ := h.mp
  have e1 : look D k = (atM M k).map (·.g) := (h2.look k).trans (find_at hi k)
  have := own_look h1 hk
  rw [e1] at this
  rw [Option.isSome_map] at this
  exact this
set_option maxRecDepth 100000 in
set_option maxHeartbeats 2000000 in
theorem Get_some {w : World} {b mb B : Nat} {nx : Int} {M : List En} (h : Ax w b mb B nx M) {k : Int} (hk : (Lit.int .i64 k).wf = true) {x : En} (hx : atM M k = some x) : Calls Try.prog 21 #[.pointer (some ⟨b, 0, none⟩), .int .i64 k] w fun r w' => r = .returned (.tuple #[.agg (aT x.key x.mark), .bool true]) ∧ Below w.heap.size w w' := by
  have HW1 : Aside0 (Below w.heap.size w (w.alloc (.cells (aT 0 0) 27))) := ⟨(Below.refl _ _).alloc (Nat.le_refl _) _⟩
  have HB1 : Aside0 ((w.alloc (.cells (aT 0 0) 27)).heap[w.heap.size]? = some (.cells (aT 0 0) 27 (0, 0))) := ⟨World.alloc_heap_new _ _⟩
  obtain ⟨v, n, e, h1, h2, h3, h4⟩ := h.below HW1.out
  have HLK := Aside0.mk (h1.tells h2 hk).2
  rw [hx] at HLK
  have HA := Aside0.mk h1
  obtain ⟨i0, hi0, he0⟩ := (h2.mem x).1 (atM_mem hx).1
  have HX : Aside0 ((w.alloc (.cells (aT 0 0) 27)).heap[x.g]? = some (.cells (aE x i0) 75 (0, 0))) := ⟨by rw [← he0]; exact h1.hq.hp.ent i0 hi0⟩
  clear hi0 he0
  clear h1 h2 h h3 hx h4 hk
  go_enter Try.func21, Try.ntmps21
  go_upto_region 1 with fail
  generalize w.alloc (.cells (aT 0 0) 27) = w1 at HW1 HB1 HA HLK HX ⊢
  have hlk := HLK.out
  simp only [Option.map_some, Option.map_none, ptrO] at hlk
  obtain ⟨c0, c1, c2, c3⟩ := HA.out.hq.hp.cells
  clear c0 c1 c3
  go_upto_region 5 with (first
    | (go_at_call 33; refine (is_calls HA.out.hq.hp).mono ?_; rintro r w2 ⟨rfl, hw2⟩; replace hw2 := hw2.symm; subst hw2)
    | (go_at_call 38; refine (told_calls x i0 HX.out).mono ?_; rintro r w3 ⟨rfl, hw3⟩; have HB3 := Aside0.mk (obj_below (hw3.alloc hw3.size (.cells (aT x.key x.mark) 27)) HB1.out); have HW3 := Aside0.mk (HW1.out.trans ((hw3.alloc hw3.size (.cells (aT x.key x.mark) 27)).mono HW1.out.size)); clear hw3))
  have hp : (w3.alloc (.cells (aT x.key x.mark) 27)).heap[w3.heap.size]? = some (.cells (aT x.key x.mark) 27 (0, 0)) := World.alloc_heap_new _ _
  have x0 : (w3.alloc (.cells (aT x.key x.mark) 27)).cell? ⟨w3.heap.size, 0, none⟩ = some (.int .i8 x.key) := by simp only [World.cell?, hp]; rfl
  have x1 : (w3.alloc (.cells (aT x.key x.mark) 27)).cell? ⟨w3.heap.size, 1, none⟩ = some (.int .i64 x.mark) := by simp only [World.cell?, hp]; rfl
  clear hp hlk c2
  generalize w3.alloc (.cells (aT x.key x.mark) 27) = w4 at HB3 HW3 x0 x1 ⊢
  generalize w3.heap.size = g7 at x0 x1 ⊢
  go_wp2_with ((with_reducible refine gate_store (t := 27) (p := 4) rfl ?_); refine store_blk rfl 27 (.tmp 4) (.tmp 24) rfl w.heap.size 0 (aT x.key x.mark) (aT 0 0) 27 rfl rfl HB3.out (by simp) (by kernel_rfl) (by simp [Value.oneCell']) ?_; intro w9 hw9 hb9; have HS : Aside0 (w9.heap[w.heap.size]? = some (.cells (aT x.key x.mark) 27 (0, 0)) ∧ Below w.heap.size w w9) := ⟨hb9, by rw [hw9]; exact below_setCells (Nat.le_refl _) _ _ _ HW3.out⟩; clear hw9 hb9)
  exact bodyPost_ret (res_ct (t := 27) rfl rfl rfl HS.out.1 Try.underlying27 rfl (by kernel_rfl)) rfl ⟨rfl, HS.out.2⟩
set_option maxRecDepth 100000 in
set_option maxHeartbeats 2000000 in
theorem Get_none {w : World} {b mb B : Nat} {nx : Int} {M : List En} (h : Ax w b mb B nx M) {k : Int} (hk : (Lit.int .i64 k).wf = true) (hx : atM M k = none) : Calls Try.prog 21 #[.pointer (some ⟨b, 0, none⟩), .int .i64 k] w fun r w' => r = .returned (.tuple #[.agg (aT 0 0), .bool false]) ∧ Below w.heap.size w w' := by
  have HW1 : Aside0 (Below w.heap.size w (w.alloc (.cells (aT 0 0) 27))) := ⟨(Below.refl _ _).alloc (Nat.le_refl _) _⟩
  have HB1 : Aside0 ((w.alloc (.cells (aT 0 0) 27)).heap[w.heap.size]? = some (.cells (aT 0 0) 27 (0, 0))) := ⟨World.alloc_heap_new _ _⟩
  obtain ⟨v, n, e, h1, h2, h3, h4⟩ := h.below HW1.out
  have HLK := Aside0.mk (h1.tells h2 hk).2
  rw [hx] at HLK
  have HA := Aside0.mk h1
  clear h1 h2 h h3 hx h4 hk
  go_enter Try.func21, Try.ntmps21
  go_upto_region 1 with fail
  generalize w.alloc (.cells (aT 0 0) 27) = w1 at HW1 HB1 HA HLK  ⊢
  have hlk := HLK.out
  simp only [Option.map_some, Option.map_none, ptrO] at hlk
  obtain ⟨c0, c1, c2, c3⟩ := HA.out.hq.hp.cells
  clear c0 c1 c3
  go_upto_region 5 with (first
    | (go_at_call 33; refine (is_calls HA.out.hq.hp).mono ?_; rintro r w2 ⟨rfl, hw2⟩; replace hw2 := hw2.symm; subst hw2)
    | (go_at_call 38; refine (told_none _).mono ?_; rintro r w3 ⟨rfl, hw3⟩; have HB3 := Aside0.mk (obj_below (hw3.alloc hw3.size (.cells (aT 0 0) 27)) HB1.out); have HW3 := Aside0.mk (HW1.out.trans ((hw3.alloc hw3.size (.cells (aT 0 0) 27)).mono HW1.out.size)); clear hw3))
  have hp : (w3.alloc (.cells (aT 0 0) 27)).heap[w3.heap.size]? = some (.cells (aT 0 0) 27 (0, 0)) := World.alloc_heap_new _ _
  have x0 : (w3.alloc (.cells (aT 0 0) 27)).cell? ⟨w3.heap.size, 0, none⟩ = some (.int .i8 0) := by simp only [World.cell?, hp]; rfl
  have x1 : (w3.alloc (.cells (aT 0 0) 27)).cell? ⟨w3.heap.size, 1, none⟩ = some (.int .i64 0) := by simp only [World.cell?, hp]; rfl
  clear hp hlk c2
  generalize w3.alloc (.cells (aT 0 0) 27) = w4 at HB3 HW3 x0 x1 ⊢
  generalize w3.heap.size = g7 at x0 x1 ⊢
  go_wp2_with ((with_reducible refine gate_store (t := 27) (p := 4) rfl ?_); refine store_blk rfl 27 (.tmp 4) (.tmp 24) rfl w.heap.size 0 (aT 0 0) (aT 0 0) 27 rfl rfl HB3.out (by simp) (by kernel_rfl) (by simp [Value.oneCell']) ?_; intro w9 hw9 hb9; have HS : Aside0 (w9.heap[w.heap.size]? = some (.cells (aT 0 0) 27 (0, 0)) ∧ Below w.heap.size w w9) := ⟨hb9, by rw [hw9]; exact below_setCells (Nat.le_refl _) _ _ _ HW3.out⟩; clear hw9 hb9)
  exact bodyPost_ret (res_ct (t := 27) rfl rfl rfl HS.out.1 Try.underlying27 rfl (by kernel_rfl)) rfl ⟨rfl, HS.out.2⟩
end Go.Proofs.Ythjppjcmapgkpaa.QAg
/- Agenda: Set's closure: an entry's thing is changed, then Fix. -/
namespace Go.Proofs.Ythjppjcmapgkpaa.QAg
open Go.RowKit Go.Maps Go.Proofs.YthjppjcmapgkpaaW.PrintWords Go.Proofs.YthjppjcmapgkpaaW.PrintLast Go.Proofs.YthjppjcmapgkpaaW.PrintMore
set_option linter.unusedVariables false
set_option linter.unusedSimpArgs false
def newE (x : En) (k m : Int) : En := ⟨x.g, x.id, k, m⟩
/-- An entry's thing is another. -/
theorem Am.setE {w : World} {b mb B : Nat} {f v : Value} {nx : Int} {n : Nat} {e : Nat → En} {l : List (Int × Nat)} (h : Am w b mb B f v nx n e l) {i : Nat} (hi : i < n) (k m : Int) :
    Am (w.setCells (e i).g 2 (aT k m).toList) b mb B f v nx n (psh e i (newE (e i) k m)) l ∧ Ag b mb B w (w.setCells (e i).g 2 (aT k m).toList) := by
  have hen := h.hq.hp.ent i hi
  have hne : ∀ (j : Nat) (cur : Array Value) (t : TypeId), w.heap[j]? = some (.cells cur t (0, 0)) → t ≠ 75 → (w.setCells (e i).g 2 (aT k m).toList).heap[j]? = w.heap[j]? := fun j cur t hj ht => far_setCells (fun hc => by
    rw [hc, hen] at hj
    injection hj with hj
    injection hj with _ hj
    exact ht hj.symm) _ _ _
  obtain ⟨e1, e2, e3, e4⟩ := os_setCells (g := (e i).g) (aT k m).toList 2 w
  obtain ⟨N, D, h1, h2, h3⟩ := h.mp
  obtain ⟨es, cl, hb⟩ := own_block h1
  have hg : ∀ j, (psh e i (newE (e i) k m) j).g = (e j).g := fun j => by
    by_cases hj : j = i
    · rw [hj, psh_new]; rfl
    · rw [psh_old _ _ hj]
  refine ⟨⟨⟨⟨(hne _ _ _ h.hq.hp.blk (by decide)).trans h.hq.hp.blk, ?_, fun j hj => ?_, fun a c ha hc hac => ?_, h.hq.hp.lt, by rw [e4]; exact h.hq.hp.sz, h.hq.hp.n6⟩, fun j hj => by rw [hg]; exact h.hq.bd j hj⟩, ⟨N, D, ownsMap_of h1 (far_setCells (fun hc => ?_) _ _ _), h2, h3⟩, h.ml⟩, ⟨e1, e2, e3, by rw [e4]; exact Nat.le_refl _, fun j hj => ?_, fun j cur t hj => ?_⟩⟩
  · have : fE (psh e i (newE (e i) k m)) n = fE e n := by
      unfold fE
      refine List.map_congr_left (fun j _ => ?_)
      rw [hg]
    rw [this]
    exact h.hq.hp.row.of (fun g cur _ hc => hne _ _ _ hc (by decide))
  · by_cases hji : j = i
    · subst hji
      rw [psh_new]
      exact blk_setCells (aT k m).toList 2 _ _ hen
    · rw [psh_old _ _ hji]
      exact (far_setCells (fun hc => hji (h.hq.hp.inj j i hj hi hc)) _ _ _).trans (h.hq.hp.ent j hj)
  · rw [hg, hg] at hac
    exact h.hq.hp.inj a c ha hc hac
  · rw [← hc] at hen
    rw [hb] at hen
    cases hen
  · by_cases hji : j = (e i).g
    · exact Or.inr (Or.inr (Or.inr ⟨by rw [hji]; exact h.hq.bd i hi, _, 75, by rw [hji]; exact hen, Or.inr rfl⟩))
    · exact Or.inl (far_setCells hji _ _ _)
  · by_cases hji : j = (e i).g
    · rw [hji] at hj ⊢
      exact ⟨_, blk_setCells (aT k m).toList 2 _ _ hj⟩
    · exact ⟨cur, (far_setCells hji _ _ _).trans hj⟩
structure SetP (w : World) (b mb B : Nat) (nx : Int) (n : Nat) (e : Nat → En) (l : List (Int × Nat)) (i : Nat) (k m : Int) (w' : World) : Prop where
  am : ∃ e' v', FixR n (psh e i (newE (e i) k m)) i e' ∧ Am w' b mb B fLess v' nx n e' l
  ag : Ag b mb B w w'
set_option maxRecDepth 100000 in
set_option maxHeartbeats 2000000 in
theorem set1_calls {w : World} {b mb B gb : Nat} {v : Value} {nx : Int} {n : Nat} {e : Nat → En} {l : List (Int × Nat)} (h : Am w b mb B fLess v nx n e l) {i : Nat} (hi : i < n) (k m : Int) (hb : w.heap[gb]? = some (.cells (aT k m) 27 (0, 0))) : Calls Try.prog 40 #[.pointer (some ⟨b, 0, none⟩), .pointer (some ⟨(e i).g, 0, none⟩), .pointer (some ⟨gb, 0, none⟩)] w fun r w' => r = .returned (.tuple #[]) ∧ SetP w b mb B nx n e l i k m w' := by
  have HS := Aside0.mk (h.setE hi k m)
  have HE := Aside0.mk (h.hq.hp.ent i hi)
  have HI := Aside0.mk hi
  have y0 : w.cell? ⟨gb, 0, none⟩ = some (.int .i8 k) := by simp only [World.cell?, hb]; rfl
  have y1 : w.cell? ⟨gb, 1, none⟩ = some (.int .i64 m) := by simp only [World.cell?, hb]; rfl
  have x1 : (w.setCells (e i).g 2 (aT k m).toList).cell? ⟨(e i).g, 1, none⟩ = some (.int .i64 (i : Int)) := by
    have := HS.out.1.hq.hp.ent i hi
    rw [psh_new] at this
    exact (ent_cells this).2.1
  clear h hi hb
  go_enter Try.func40, Try.ntmps40
  go_upto_region 1 with ((with_reducible refine gate_store (t := 27) (p := 8) rfl ?_); refine store_blk rfl 27 (.tmp 8) (.tmp 6) rfl (e i).g 2 (aT k m) (aE (e i) i) 75 rfl rfl HE.out (Nat.le_refl 4) (by kernel_rfl) (by simp [Value.oneCell']) ?_; intro w9 hw9 hb9; clear hb9)
  subst hw9
  clear y0 y1
  generalize w.setCells (e i).g 2 (aT k m).toList = w2 at HS x1 ⊢
  have HS2 := Aside0.mk (HS.out.1.below (Below.refl _ _).drew)
  have HG2 : Aside0 (Ag b mb B w w2.drew) := ⟨HS.out.2.trans (Ag.of_below (Below.refl _ _).drew)⟩
  go_still_tail 8, rfl
  go_wp2_with (go_at_call 41; refine (fix_calls (mb := b) HS2.out.hq HI.out).mono ?_; rintro r w3 ⟨rfl, e2, hf, hq3, hg3⟩; have HF := Aside0.mk (And.intro hf (And.intro (HS2.out.after hg3 hq3) (HG2.out.trans hg3.wide))); clear hf hq3 hg3)
  exact bodyPost_end (results_none rfl _ _ _) rfl ⟨rfl, ⟨e2, v, HF.out.1, HF.out.2.1⟩, HF.out.2.2⟩
end Go.Proofs.Ythjppjcmapgkpaa.QAg
