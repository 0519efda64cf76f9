/- Agenda: thing; what two agendas keep of each other. -/
import Derived.Test.YthjppjcmapgkpaaGGAg
namespace Go.Proofs.Ythjppjcmapgkpaa.QAg
open Go.RowKit Go.Proofs.YthjppjcmapgkpaaW.PrintWords Go.Proofs.YthjppjcmapgkpaaW.PrintLast Go.Proofs.YthjppjcmapgkpaaW.PrintMore
set_option linter.unusedVariables false
set_option linter.unusedSimpArgs false
set_option maxRecDepth 100000 in
set_option maxHeartbeats 2000000 in
theorem thing_calls (k : Int) (w : World) : Calls Try.prog 31 #[.int .i8 k] w fun r w' => r = .returned (.agg (aT k 0)) ∧ Below w.heap.size w w' := by
  have HB1 : Aside0 ((w.alloc (.cells (aT 0 0) 27)).heap[w.heap.size]? = some (.cells (aT 0 0) 27 (0, 0))) := ⟨World.alloc_heap_new _ _⟩
  have HW1 : Aside0 (Below w.heap.size w (w.alloc (.cells (aT 0 0) 27))) := ⟨(Below.refl _ _).alloc (Nat.le_refl _) _⟩
  go_enter Try.func31, Try.ntmps31
  go_upto_region 1 with fail
  generalize w.alloc (.cells (aT 0 0) 27) = w1 at HB1 HW1 ⊢
  go_wp2_with ((with_reducible refine gate_store (t := 27) (p := 2) rfl ?_); refine store_blk rfl 27 (.tmp 2) (.tmp 4) rfl w.heap.size 0 (aT k 0) (aT 0 0) 27 rfl rfl HB1.out (by simp) (by kernel_rfl) (by simp [Value.oneCell']) ?_; intro w9 hw9 hb9; have HS : Aside0 (w9.heap[w.heap.size]? = some (.cells (aT k 0) 27 (0, 0)) ∧ Below w.heap.size w w9) := ⟨hb9, by rw [hw9]; exact below_setCells (Nat.le_refl _) _ _ _ HW1.out⟩; clear hw9 hb9)
  exact bodyPost_ret (results_cell_row (ty := 27) rfl _ _ w.heap.size 27 (aT k 0) (0, 0) _ rfl HS.out.1 Try.underlying27 rfl (by kernel_rfl)) rfl ⟨rfl, HS.out.2⟩
theorem Ag.below {b mb B n : Nat} {w w' : World} (h : Ag b mb B w w') (h1 : n ≤ b) (h2 : n ≤ mb) (h3 : n ≤ B) (hn : n ≤ w.heap.size) : Below n w w' :=
  ⟨h.os, h.tape, h.output, h.size, fun i hi => by
    rcases h.block i (by omega) with h4 | h4 | h4 | ⟨h4, _⟩
    · exact h4
    · omega
    · omega
    · omega⟩
theorem Far.belowN {rb n : Nat} {w w' : World} (h : Far rb rb w w') (h1 : n ≤ rb) (hn : n ≤ w.heap.size) : Below n w w' :=
  ⟨h.os, h.tape, h.output, h.size, fun i hi => h.block i (by omega) (by omega) (by omega)⟩
theorem Ax.blks {w : World} {b mb B : Nat} {nx : Int} {M : List En} (h : Ax w b mb B nx M) : (∃ C, w.heap[b]? = some (.cells C 63 (0, 0))) ∧ ∃ es cl, w.heap[mb]? = some (.map es cl) := by
  obtain ⟨v, n, e, h1, _⟩ := h
  obtain ⟨N, D, h2, _⟩ := h1.mp
  exact ⟨⟨_, h1.hq.hp.blk⟩, own_block h2⟩
/-- The document's agenda stays where the program's turns. -/
theorem RL.ag {w w' : World} {rb C b mb B : Nat} {nx : Int} {M : List En} {r : RS} {v : Value} (h : RL w rb C r v) (ha : Ax w b mb B nx M) (k : Ag b mb B w w') : RL w' rb C r v := by
  obtain ⟨⟨Cb, hb⟩, es, cl, hm⟩ := ha.blks
  have key : ∀ (i : Nat) (cur : Array Value) (t : TypeId), w.heap[i]? = some (.cells cur t (0, 0)) → (t = 32 ∨ t = 40) → w'.heap[i]? = w.heap[i]? := fun i cur t hi ht => by
    rcases k.block i (Array.getElem?_eq_some_iff.1 hi).1 with h1 | h1 | h1 | ⟨_, c, t', h1, h2⟩
    · exact h1
    · rw [h1, hb] at hi
      injection hi with hi
      injection hi with _ hi
      subst hi
      rcases ht with ht | ht <;> exact absurd ht (by decide)
    · rw [h1, hm] at hi; cases hi
    · rw [hi] at h1
      injection h1 with h1
      injection h1 with _ h1
      subst h1
      rcases ht with ht | ht <;> rcases h2 with h2 | h2 <;> (rw [ht] at h2; exact absurd h2 (by decide))
  exact ⟨(key _ _ _ h.blk (Or.inl rfl)).trans h.blk, h.row.of (fun g cur _ hg => key _ _ _ hg (Or.inr rfl)), h.lt, Nat.le_trans h.sz k.size, h.len⟩
/-- The program's agenda stays where the document's turns. -/
theorem Ax.rn {w w' : World} {rb C b mb B : Nat} {nx : Int} {M : List En} {r : RS} {v : Value} (ha : Ax w b mb B nx M) (h : RL w rb C r v) (k : Far rb rb w w') : Ax w' b mb B nx M := by
  obtain ⟨u, n, e, h1, h2⟩ := ha
  refine ⟨u, n, e, h1.keep k.size (fun i cur t hi h3 => ?_) (fun es cl hm => ?_), h2⟩
  · have hne : i ≠ rb := fun hc => by
      rw [hc, h.blk] at hi
      injection hi with hi
      injection hi with _ hi
      subst hi
      rcases h3 with h3 | h3 | h3 <;> exact absurd h3 (by decide)
    exact k.block i (Array.getElem?_eq_some_iff.1 hi).1 hne hne
  · have hne : mb ≠ rb := fun hc => by
      rw [hc, h.blk] at hm
      cases hm
    exact k.block mb (Array.getElem?_eq_some_iff.1 hm).1 hne hne
def strip (x : En) : Int × Int × Int := (x.key, x.mark, x.id)
theorem fM_strip : ∀ {a b : List En}, a.map strip = b.map strip → fM a = fM b
  | [], [], _ => rfl
  | [], _ :: _, h => by simp at h
  | _ :: _, [], h => by simp at h
  | x :: a, y :: b, h => by
    simp only [List.map_cons, List.cons.injEq] at h
    rw [fM_cons, fM_cons, fM_strip h.2]
    have h1 := h.1
    unfold strip at h1
    injection h1 with h1 h2
    injection h2 with h2 h3
    unfold aMs
    rw [h1, h2, h3]
theorem RL.strip {w : World} {rb C : Nat} {r : RS} {v : Value} (h : RL w rb C r v) {M : List En} (hs : r.L.map QAg.strip = M.map QAg.strip) : RL w rb C ⟨r.last, M⟩ v := by
  have hl : r.L.length = M.length := by have := congrArg List.length hs; simpa using this
  exact ⟨h.blk, by rw [← fM_strip hs]; show RowQ w C 40 3 v M.length _; rw [← hl]; exact h.row, h.lt, h.sz, by show M.length ≤ _; rw [← hl]; exact h.len⟩
/-- The two agendas side by side, made since w0. -/
structure Jp (w0 : World) (b mb B rb C : Nat) (nx : Int) (M : List En) (r : RS) (w : World) : Prop where
  ax : Ax w b mb B nx M
  rl : ∃ v, RL w rb C r v
  be : Below w0.heap.size w0 w
  ge : w0.heap.size ≤ b ∧ w0.heap.size ≤ mb ∧ w0.heap.size ≤ B ∧ w0.heap.size ≤ rb
section
variable {w0 w w' : World} {b mb B rb C : Nat} {nx nx' : Int} {M M' : List En} {r r' : RS}
theorem Jp.below (h : Jp w0 b mb B rb C nx M r w) (k : Below w.heap.size w w') : Jp w0 b mb B rb C nx M r w' := by
  obtain ⟨v, hv⟩ := h.rl
  exact ⟨h.ax.below k, ⟨v, hv.below k⟩, h.be.trans (k.mono h.be.size), h.ge⟩
theorem Jp.ag (h : Jp w0 b mb B rb C nx M r w) (k : Ag b mb B w w') (ha : Ax w' b mb B nx' M') : Jp w0 b mb B rb C nx' M' r w' := by
  obtain ⟨v, hv⟩ := h.rl
  exact ⟨ha, ⟨v, hv.ag h.ax k⟩, h.be.trans (k.below h.ge.1 h.ge.2.1 h.ge.2.2.1 h.be.size), h.ge⟩
theorem Jp.rn (h : Jp w0 b mb B rb C nx M r w) (k : Rn rb C r' w w') : Jp w0 b mb B rb C nx M r' w' := by
  obtain ⟨v, hv⟩ := h.rl
  exact ⟨h.ax.rn hv k.fr, k.rl, h.be.trans (k.fr.belowN h.ge.2.2.2 h.be.size), h.ge⟩
theorem Jp.strip (h : Jp w0 b mb B rb C nx M r w) (hs : r.L.map QAg.strip = M'.map QAg.strip) : Jp w0 b mb B rb C nx M ⟨r.last, M'⟩ w := by
  obtain ⟨v, hv⟩ := h.rl
  exact ⟨h.ax, ⟨v, hv.strip hs⟩, h.be, h.ge⟩
end
end Go.Proofs.Ythjppjcmapgkpaa.QAg
