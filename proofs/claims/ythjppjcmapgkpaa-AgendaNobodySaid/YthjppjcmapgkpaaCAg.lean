/- Agenda: the agenda in memory; less, the row's Len and Less. -/
import Derived.Test.YthjppjcmapgkpaaBAg
namespace Go.Proofs.Ythjppjcmapgkpaa.QAg
open Go.RowKit Go.Proofs.YthjppjcmapgkpaaW.PrintWords Go.Proofs.YthjppjcmapgkpaaW.PrintLast Go.Proofs.YthjppjcmapgkpaaW.PrintMore
set_option linter.unusedVariables false
set_option linter.unusedSimpArgs false
abbrev aT (k m : Int) : Array Value := #[.int .i8 k, .int .i64 m]
def aE (x : En) (i : Nat) : Array Value := #[.int .i64 x.id, .int .i64 (i : Int), .int .i8 x.key, .int .i64 x.mark]
def fE (e : Nat → En) (n : Nat) : List Value := (List.range n).map (fun i => .pointer (some ⟨(e i).g, 0, none⟩))
def aA (v f m : Value) (nx : Int) : Array Value := #[v, f, m, .int .i64 nx]
theorem fE_len (e : Nat → En) (n : Nat) : (fE e n).length = n * 1 := by unfold fE; rw [List.length_map, List.length_range, Nat.mul_one]
theorem fE_get (e : Nat → En) {n i : Nat} (h : i < n) : (fE e n)[i]? = some (.pointer (some ⟨(e i).g, 0, none⟩)) := by
  unfold fE; rw [List.getElem?_map, List.getElem?_range h]; rfl
/-- The agenda at block b: its row of entries, by their places. -/
structure Hp (w : World) (b B : Nat) (f m : Value) (nx : Int) (v : Value) (n : Nat) (e : Nat → En) : Prop where
  blk : w.heap[b]? = some (.cells (aA v f m nx) 63 (0, 0))
  row : RowQ w B 73 1 v n (fE e n)
  ent : ∀ i, i < n → w.heap[(e i).g]? = some (.cells (aE (e i) i) 75 (0, 0))
  inj : ∀ i j, i < n → j < n → (e i).g = (e j).g → i = j
  lt : b < B
  sz : B ≤ w.heap.size
  n6 : n ≤ 1000000
section
variable {w w' : World} {b B : Nat} {f m v : Value} {nx : Int} {n : Nat} {e : Nat → En}
theorem Hp.below (h : Hp w b B f m nx v n e) (j : Below w.heap.size w w') : Hp w' b B f m nx v n e :=
  ⟨obj_below j h.blk, h.row.below j, fun i hi => obj_below j (h.ent i hi), h.inj, h.lt, Nat.le_trans h.sz j.size, h.n6⟩
theorem Hp.cells (h : Hp w b B f m nx v n e) : w.cell? ⟨b, 0, none⟩ = some v ∧ w.cell? ⟨b, 1, none⟩ = some f ∧ w.cell? ⟨b, 2, none⟩ = some m ∧ w.cell? ⟨b, 3, none⟩ = some (.int .i64 nx) := by
  have := h.blk
  refine ⟨?_, ?_, ?_, ?_⟩ <;> (simp only [World.cell?, this]; rfl)
theorem Hp.frozen (h : Hp w b B f m nx v n e) (k : Nat) : w.frozen? ⟨b, k, none⟩ = false := by
  have := h.blk
  simp [World.frozen?, this]
theorem Hp.form (h : Hp w b B f m nx v n e) : ∃ A c, v = .slice A n c ∧ n ≤ c := h.row.form
theorem Hp.entry (h : Hp w b B f m nx v n e) {i : Nat} (hi : i < n) : w.cell? ⟨(e i).g, 0, none⟩ = some (.int .i64 (e i).id) ∧ w.cell? ⟨(e i).g, 1, none⟩ = some (.int .i64 (i : Int)) ∧ w.cell? ⟨(e i).g, 2, none⟩ = some (.int .i8 (e i).key) ∧ w.cell? ⟨(e i).g, 3, none⟩ = some (.int .i64 (e i).mark) := by
  have := h.ent i hi
  refine ⟨?_, ?_, ?_, ?_⟩ <;> (simp only [World.cell?, this]; rfl)
theorem Hp.place {A : Option Addr} {n' c : Nat} (h : Hp w b B f m nx (.slice A n' c) n e) {i : Nat} (hi : i < n) : ∃ g o, A = some ⟨g, o, none⟩ ∧ w.cell? ⟨g, o + i, none⟩ = some (.pointer (some ⟨(e i).g, 0, none⟩)) := by
  obtain ⟨g, o, cap, cur, hv, q1, q2, q3, q4, q5⟩ := h.row.lies (by omega)
  injection hv with e1 e2 e3
  subst e1
  refine ⟨g, o, rfl, ?_⟩
  simp only [World.cell?, q2]
  exact q5 _ _ (fE_get e hi)
theorem Hp.placeAt {g o n' c : Nat} (h : Hp w b B f m nx (.slice (some ⟨g, o, none⟩) n' c) n e) {i : Nat} (hi : i < n) : w.cell? ⟨g, o + i, none⟩ = some (.pointer (some ⟨(e i).g, 0, none⟩)) := by
  obtain ⟨g', o', hA, hc⟩ := h.place hi
  injection hA with hA
  injection hA with h1 h2
  subst h1 h2
  exact hc
end
theorem less_calls (k1 m1 k2 m2 : Int) (w : World) : Calls Try.prog 9 #[.agg (aT k1 m1), .agg (aT k2 m2)] w fun e w' => e = .returned (.bool (decide (k1 < k2))) ∧ Below w.heap.size w w' := by
  have HB : Aside0 (Below w.heap.size w ((w.alloc (.cells (aT k1 m1) 27)).alloc (.cells (aT k2 m2) 27))) := ⟨((Below.refl _ _).alloc (Nat.le_refl _) _).alloc (by simp) _⟩
  go_enter Try.func9, Try.ntmps9
  go_upto_region 1 with fail
  have b0 : ((w.alloc (.cells (aT k1 m1) 27)).alloc (.cells (aT k2 m2) 27)).cell? ⟨w.heap.size, 0, none⟩ = some (.int .i8 k1) := by
    rw [World.cell?_alloc_lt _ _ _ (by simp)]
    simp only [World.cell?]
    rw [World.alloc_heap_new]
    rfl
  have b1 : ((w.alloc (.cells (aT k1 m1) 27)).alloc (.cells (aT k2 m2) 27)).cell? ⟨w.heap.size + 1, 0, none⟩ = some (.int .i8 k2) := by
    simp only [World.cell?]
    have := World.alloc_heap_new (w.alloc (.cells (aT k1 m1) 27)) (.cells (aT k2 m2) 27)
    rw [show (w.alloc (.cells (aT k1 m1) 27)).heap.size = w.heap.size + 1 from by show (w.heap.push _).size = _; rw [Array.size_push]] at this
    rw [this]
    rfl
  generalize (w.alloc (.cells (aT k1 m1) 27)).alloc (.cells (aT k2 m2) 27) = w2 at HB b0 b1 ⊢
  go_wp2
  go_ret
  exact ⟨rfl, HB.out⟩
end Go.Proofs.Ythjppjcmapgkpaa.QAg
