/- Arguments of any readable type, opened into plain Lean values: lemmas for the rows of laws. -/
import Derived.Test.YthjppjcmapgkpaaWWords
import Derived.Carry
import Derived.ChangeArms
import Derived.Deep.Slices
import Derived.SizedLaws
import Derived.WideShapes
import Derived.ProofKit
import Derived.WalkKit
import Derived.OpenShut
namespace Go.Proofs.Ythjppjcmapgkpaa.LO
open Go.RowKit Go.ChangeShapes Go.WideShapes Go.ChangeAt Go.Proofs.YthjppjcmapgkpaaW.PrintWords

/-- What a value of type t reads as, opened: a kind's value, and what is known of its size. -/
def Opens {α : Type} (P : Program) (t : TypeId) (d : Kd α) (Bd : α → Prop) : Prop :=
  ∀ (H : Type) (enc : TypeId × Value → H) (W : World) (fuel : Nat) (cs : List Value) (x : DataW H × List MemPlace),
    DataW.trod enc P W 0 (fun _ => true) true fuel t cs = some x → (DataW.weights P t x.1).all (· ≤ reachBytes) = true → ∃ a, d.K W a cs ∧ Bd a

theorem opens_int {P : Program} {t : TypeId} {k : IntKind} (hu : P.underlying t = some (.int k)) : Opens P t (Kd.int k) (fun n => (Lit.int k n).wf = true) := by
  intro H enc W fuel cs x h _
  obtain ⟨n, rfl, _, hw⟩ := DataW.trod_int hu h
  exact ⟨n, rfl, hw⟩
theorem opens_bool {P : Program} {t : TypeId} (hu : P.underlying t = some .bool) : Opens P t Kd.bool (fun _ => True) := by
  intro H enc W fuel cs x h _
  obtain ⟨b, rfl, _⟩ := DataW.trod_bool hu h
  exact ⟨b, rfl, trivial⟩
theorem opens_string {P : Program} {t : TypeId} (hu : P.underlying t = some .string) : Opens P t Kd.string (fun s => s.size ≤ 140737488351232) := by
  intro H enc W fuel cs x h hw
  obtain ⟨s, rfl, rfl, _⟩ := DataW.trod_string hu h
  refine ⟨s, rfl, ?_⟩
  simp only [DataW.weights, List.all_cons, List.all_nil, Bool.and_true, decide_eq_true_eq] at hw
  have e : s.data.toList.length = s.size := by rw [Array.length_toList]; rfl
  rw [e] at hw
  exact hw

theorem weightsAll_get {H : Type} {P : Program} {e : TypeId} : ∀ (l : List (DataW H)), (DataW.weightsAll P e l).all (· ≤ reachBytes) = true → ∀ d ∈ l, (DataW.weights P e d).all (· ≤ reachBytes) = true
  | [], _, d, hd => by cases hd
  | y :: r, h, d, hd => by
    rw [DataW.weightsAll, List.all_append, Bool.and_eq_true] at h
    rcases List.mem_cons.1 hd with rfl | hd
    · exact h.1
    · exact weightsAll_get r h.2 d hd

theorem cells?_len {w : World} {b : Nat} {a : Addr} {n : Nat} {cs : List Value} (h : w.cells? b a n = some cs) : cs.length = n ∧ ∀ j u, cs[j]? = some u → w.cell? (a.add j) = some u := by
  unfold World.cells? at h
  split at h
  · have hl := mapM_some_length h
    refine ⟨by simpa using hl, fun j u hu => ?_⟩
    have hj : j < n := by
      have := (List.getElem?_eq_some_iff.1 hu).1
      rw [hl] at this
      simpa using this
    have := mapM_some_get h j j (by simp [hj])
    rw [hu] at this
    exact this
  · cases h

theorem opens_slice {α : Type} {P : Program} {t e : TypeId} {d : Kd α} {Bd : α → Prop} {B : Nat} (hu : P.underlying t = some (.slice e)) (hc : P.cellsOf e = d.sz) (hB : P.bytesOf e = B) (ho : Opens P e d Bd) :
    Opens P t (Kd.slice e d) (fun l => l.length * B ≤ 140737488351232 ∧ ∀ x ∈ l, Bd x) := by
  intro H enc W fuel cs x h hw
  rcases Go.Deep.open_slice hu h with ⟨rfl, _⟩ | ⟨a, len, cap, m, n, D, Pl, rfl, hb, hl, hm, hmm, rfl, hx⟩
  · exact ⟨[], ⟨none, 0, rfl, Nat.le_refl _, rfl, by simp, fun h => absurd h (by simp)⟩, by simp, fun x hx => by cases hx⟩
  · simp only [if_true] at hmm
    subst hmm
    have hw' := hw
    simp only [DataW.weights, hu, List.all_cons, List.all_append, Bool.and_eq_true, decide_eq_true_eq, List.length_map, List.length_range] at hw
    obtain ⟨hw1, hw2, _⟩ := hw
    have hlen : len * B ≤ 140737488351232 := by
      rw [hB] at hw1
      have : len * B ≤ (len + (m - len)) * B := Nat.mul_le_mul_right _ (by omega)
      exact Nat.le_trans this hw1
    have key : ∀ i, i < len → ∃ (a' : α) (c : List Value), d.K W a' c ∧ Bd a' ∧ c.length = d.sz ∧ ∀ j u, c[j]? = some u → W.cell? (a.add (i * d.sz + j)) = some u := by
      intro i hi
      obtain ⟨cs', h1, h2⟩ := hx i (by omega)
      have hwi : (DataW.weights P e (D i)).all (· ≤ reachBytes) = true := weightsAll_get _ hw2 _ (List.mem_map.2 ⟨i, List.mem_range.2 hi, rfl⟩)
      obtain ⟨a', hK, hBd⟩ := ho H enc W n cs' _ h2 hwi
      obtain ⟨hcl, hcc⟩ := cells?_len h1
      refine ⟨a', cs', hK, hBd, by rw [hcl, hc], fun j u hu' => ?_⟩
      have := hcc j u hu'
      rw [Go.Deep.add_add, hc] at this
      exact this
    have hlist : ∀ k, k ≤ len → ∃ l : List α, l.length = k ∧ (∀ x ∈ l, Bd x) ∧ ∀ j p, l[j]? = some p → ∃ c, c.length = d.sz ∧ d.K W p c ∧ ∀ i u, c[i]? = some u → W.cell? (a.add (j * d.sz + i)) = some u := by
      intro k
      induction k with
      | zero => exact fun _ => ⟨[], rfl, fun x hx => (by cases hx), fun j p h => (by simp at h)⟩
      | succ k ih =>
        intro hk
        obtain ⟨l, h1, h2, h3⟩ := ih (by omega)
        obtain ⟨a', c, k1, k2, k3, k4⟩ := key k (by omega)
        refine ⟨l ++ [a'], by simp [h1], fun x hx => ?_, fun j p hj => ?_⟩
        · rcases List.mem_append.1 hx with hx | hx
          · exact h2 x hx
          · rw [List.mem_singleton.1 hx]; exact k2
        · by_cases hjk : j < l.length
          · rw [List.getElem?_append_left hjk] at hj
            exact h3 j p hj
          · have hj' := (List.getElem?_eq_some_iff.1 hj).1
            rw [List.length_append, List.length_singleton] at hj'
            obtain rfl : j = l.length := by omega
            rw [List.getElem?_append_right (Nat.le_refl _)] at hj
            simp at hj
            subst hj
            rw [h1]
            exact ⟨c, k3, k1, k4⟩
    obtain ⟨l, h1, h2, h3⟩ := hlist len (Nat.le_refl _)
    refine ⟨l, ⟨some a, m, by rw [h1], by omega, rfl, by unfold maxLen at hm; omega, fun _ => ⟨a, rfl, h3⟩⟩, by rw [h1]; exact hlen, h2⟩

/-! Fields in line -/
theorem cut0 {α : Type} (cs : List α) (c : Nat) : cs = (cs.drop 0).take c ++ cs.drop c := by simp
theorem cut {α : Type} (cs : List α) (o c o' : Nat) (h : o' = o + c) : cs.drop o = (cs.drop o).take c ++ cs.drop o' := by
  rw [h, ← List.drop_drop, List.take_append_drop]
theorem cutl {α : Type} (cs : List α) (o c : Nat) (h : cs.length = o + c) : (cs.drop o).take c = cs.drop o := List.take_of_length_le (by rw [List.length_drop]; omega)
theorem cutl0 {α : Type} (cs : List α) (c : Nat) (h : cs.length = c) : (cs.drop 0).take c = cs := by rw [List.drop_zero]; exact List.take_of_length_le (by omega)

theorem trodAll_below {H : Type} {enc : TypeId × Value → H} {P : Program} (hl : laidOutB P = true) {W W' : World} (hb : Below W.heap.size W W') :
    ∀ (ts : List TypeId) (vs : List Value) (ds : List (DataW H)) (ps : List MemPlace), (∀ t ∈ ts, P.readableRec t = true ∧ t < P.types.size) → (∀ x ∈ ps, x.block < W.heap.size) →
      DataW.TrodAll enc P W 0 (fun _ => true) true ts vs ds ps → DataW.TrodAll enc P W' 0 (fun b => decide (b < W.heap.size)) true ts vs ds ps
  | [], vs, ds, ps, _, _, h => by
    obtain ⟨rfl, rfl, rfl⟩ := trodAll_nil h
    exact trodAll_mk0
  | t :: ts, vs, ds, ps, hr, hlt, h => by
    obtain ⟨v0, vs0, d0, ds0, p0, q0, rfl, rfl, rfl, h0, r0⟩ := trodAll_cons h
    exact trodAll_cons_mk (Below.trod hl (hr t List.mem_cons_self).1 (hr t List.mem_cons_self).2 h0 hb (fun x hx => hlt x (List.mem_append_left _ hx)))
      (trodAll_below hl hb ts vs0 ds0 q0 (fun t' ht' => hr t' (List.mem_cons_of_mem _ ht')) (fun x hx => hlt x (List.mem_append_right _ hx)) r0)

/-- A struct's argument. -/
theorem open_struct {α H : Type} {enc : TypeId × Value → H} {P : Program} {t : TypeId} {fs : Array Field} {d : Kd α} {Bd : α → Prop} {W : World} {r : Reach} {b0 : Nat} {v : Value} {dd : DataW H} {p : List MemPlace}
    (hu : P.underlying t = some (.struct fs)) (ho : Opens P t d Bd) (hv : Value.okWide P W r b0 t v) (h : DataW.Trod enc P W 0 (fun _ => true) true t v dd p) (hw : (DataW.weights P t dd).all (· ≤ reachBytes) = true) :
    ∃ (cs : List Value) (x : α), v = .agg cs.toArray ∧ d.K W x cs ∧ Bd x := by
  obtain ⟨cs, rfl, _⟩ := okWide_struct hu hv
  obtain ⟨fuel, hf⟩ := h
  obtain ⟨x, hK, hB⟩ := ho H enc W fuel _ _ hf hw
  exact ⟨cs.toList, x, by simp, by simpa [Value.cells] using hK, hB⟩
theorem open_slice {α H : Type} {enc : TypeId × Value → H} {P : Program} {t e : TypeId} {d : Kd α} {Bd : List α → Prop} {W : World} {r : Reach} {b0 : Nat} {v : Value} {dd : DataW H} {p : List MemPlace}
    (hu : P.underlying t = some (.slice e)) (ho : Opens P t (Kd.slice e d) Bd) (hv : Value.okWide P W r b0 t v) (h : DataW.Trod enc P W 0 (fun _ => true) true t v dd p) (hw : (DataW.weights P t dd).all (· ≤ reachBytes) = true) :
    ∃ (A : Option Addr) (c : Nat) (l : List α), v = .slice A l.length c ∧ l.length ≤ c ∧ Kd.C d W A l.length l ∧ Bd l := by
  obtain ⟨a, n, c, rfl⟩ := okWide_slice hu hv
  obtain ⟨fuel, hf⟩ := h
  obtain ⟨l, ⟨A, c', hK, hc, hC⟩, hB⟩ := ho H enc W fuel _ _ hf hw
  simp [Value.cells] at hK
  obtain ⟨rfl, rfl, rfl⟩ := hK
  exact ⟨a, c, l, rfl, hc, hC, hB⟩
/-- The weights of arguments, one by one. -/
theorem each_cons {H : Type} {P : Program} {t : TypeId} {ts : List TypeId} {d : DataW H} {ds : List (DataW H)} (h : (DataW.weightsEach P (t :: ts) (d :: ds)).all (· ≤ reachBytes) = true) :
    (DataW.weights P t d).all (· ≤ reachBytes) = true ∧ (DataW.weightsEach P ts ds).all (· ≤ reachBytes) = true := by
  rw [DataW.weightsEach, List.all_append, Bool.and_eq_true] at h
  exact h
theorem len_succ {α : Type} {xs : List α} {n : Nat} (h : xs.length = n + 1) : ∃ y ys, xs = y :: ys ∧ ys.length = n := by
  cases xs with
  | nil => cases h
  | cons y ys => exact ⟨y, ys, rfl, by simpa using h⟩
theorem len_zero {α : Type} {xs : List α} (h : xs.length = 0) : xs = [] := List.eq_nil_of_length_eq_zero h
end Go.Proofs.Ythjppjcmapgkpaa.LO
