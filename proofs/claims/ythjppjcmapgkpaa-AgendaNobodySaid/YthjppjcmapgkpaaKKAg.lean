/- Agenda: range over Drain: own law: the iterator turns the agenda, the rounds an own box and its row. -/
import Derived.Test.YthjppjcmapgkpaaJJAg
import Derived.RangeFuncBound
import Derived.RangeFuncCalls
import Derived.RangeFuncLeaves
import Derived.Shelf.RegionOpen
import Derived.OwnWalkIn
import Derived.TacticsInMore
import Derived.LoopNIn
import Derived.LoopIn
import Derived.Maps.OwnIn
namespace Go.Proofs.Ythjppjcmapgkpaa.QAg
open Go.RowKit Go.Maps Go.Proofs.YthjppjcmapgkpaaW.PrintWords Go.Proofs.YthjppjcmapgkpaaW.PrintLast Go.Proofs.YthjppjcmapgkpaaW.PrintMore
set_option linter.unusedVariables false
set_option linter.unusedSimpArgs false
attribute [local go_sem] Oper.semAt_some
/-- What is no cells, no map at mb and lies from n on, the iterator leaves. -/
theorem Tr.other {b mb B n1 go i : Nat} {w w' : World} {o : Obj} (h : Tr b mb B n1 go w w') (hi : w.heap[i]? = some o) (ho : o.isCells = false) (h1 : i ≠ b) (h2 : i ≠ mb) : w'.heap[i]? = some o := by
  rcases h.block i (Array.getElem?_eq_some_iff.1 hi).1 with h3 | h3 | h3 | ⟨cur, t, h3, _⟩
  · exact h3.trans hi
  · exact absurd h3 h1
  · exact absurd h3 h2
  · rw [hi] at h3
    cases h3
    cases ho
/-- How a round ends. -/
def rndQ (go : Nat) (I : World → Prop) (W : World) : Exit → Act → World → Prop
  | .normal, _, W' => KeepsOthers W W' ∧ Kq go W W' ∧ I W'
  | _, _, _ => False
theorem Kq.loop {go l : Nat} {W : World} {r r' : Loop} (h : W.heap[l]? = some (.loop r)) (hg : ∃ v, W.heap[go]? = some (.cells #[v] 36 (0, 0))) : Kq go W (W.putObj l (.loop r')) := by
  obtain ⟨v, hv⟩ := hg
  have hne : go ≠ l := fun hc => by rw [hc, h] at hv; cases hv
  refine ⟨by simp, fun i hi => ?_, fun i hi hf => ⟨hf.1, fun u hu => hf.2 u ((World.putObj_heap_other hne).symm.trans hu)⟩⟩
  by_cases hil : i = l
  · exact Or.inr (Or.inr (Or.inr ⟨r, by rw [hil]; exact h⟩))
  · exact Or.inl (World.putObj_heap_other hil)
theorem Kq.trans {go : Nat} {A B C : World} (h : Kq go A B) (k : Kq go B C) (hA : ∃ v, A.heap[go]? = some (.cells #[v] 36 (0, 0))) : Kq go A C := by
  refine ⟨Nat.le_trans h.size k.size, fun i hi => ?_, fun i hi hf => k.fr i (Nat.lt_of_lt_of_le hi h.size) (h.fr i hi hf)⟩
  rcases h.block i hi with h1 | h1 | h1 | h1
  · rcases k.block i (Nat.lt_of_lt_of_le hi h.size) with k1 | k1 | ⟨⟨cur, k1⟩, k2⟩ | ⟨r, k1⟩
    · exact Or.inl (k1.trans h1)
    · exact Or.inr (Or.inl k1)
    · exact Or.inr (Or.inr (Or.inl ⟨⟨cur, h1 ▸ k1⟩, fun hf => k2 (h.fr i hi hf)⟩))
    · exact Or.inr (Or.inr (Or.inr ⟨r, h1 ▸ k1⟩))
  · exact Or.inr (Or.inl h1)
  · exact Or.inr (Or.inr (Or.inl h1))
  · exact Or.inr (Or.inr (Or.inr h1))
/-- A range whose iterator turns an agenda that is older than the range. -/
theorem range_own {P : Program} {n : Nat} {g : Operand} {ps : Array Tmp} {assign body : Code} {Q : Exit → Act → World → Prop} {a : Act} {w : World} {go b mb B : Nat}
    (h1 : 1 ≤ n) {gf : Nat} {lb : Array Value} (hg : a.eval g = .func (.func gf) #[] lb) (eg : ∀ args w, (callFunc gf args).run P w = .ok (.enter gf args) w)
    (N : Nat) (encs : En → Array Value) (hps : ∀ x, (encs x).size = ps.size) (hb : b < w.heap.size) (hm : mb < w.heap.size) (S : List En → World → Prop) (I : List En → World → Prop)
    (hseq : ∀ (l : Nat) (J : List En → World → Prop) (W : World), Below w.heap.size w W → (∀ pre A A', J pre A → Tr b mb B W.heap.size go A A' → J pre A') → (∀ pre A, J pre A → ∃ v, A.heap[go]? = some (.cells #[v] 36 (0, 0)) ∧ ∀ i, v.ownBlock = some i → i < A.heap.size) → J [] W →
      (∀ (pre : List En) (x : En) (W1 : World), J pre W1 → pre.length < N → YieldAt Fence.wide (n - 1 - 1) P l (encs x) W1 fun r W' => (r = .returned (.bool true) ∧ J (pre ++ [x]) W' ∧ Kq go W1 W') ∨ (r = .returned (.bool false) ∧ (fun _ _ => False : List En → World → Prop) (pre ++ [x]) W' ∧ Kq go W1 W')) →
      CallsIn Fence.wide (n - 1) P gf (#[.func (.yield l) #[] #[]] ++ lb) W fun e W' => (∃ v, e = .returned v) ∧ ∃ xs, S xs W' ∧ J xs W')
    (hI : ∀ pre A A' n1, w.heap.size ≤ n1 → I pre A → Tr b mb B n1 go A A' → I pre A') (hF : ∀ pre A, I pre A → ∃ v, A.heap[go]? = some (.cells #[v] 36 (0, 0)) ∧ ∀ i, v.ownBlock = some i → i < A.heap.size)
    (hIl : ∀ pre A l r r', I pre A → w.heap.size ≤ l → A.heap[l]? = some (.loop r) → I pre (A.putObj l (.loop r'))) (hSl : ∀ pre A l r r', S pre A → w.heap.size ≤ l → A.heap[l]? = some (.loop r) → S pre (A.putObj l (.loop r')))
    (h0 : I [] w)
    (hround : ∀ (l : Nat) (pre : List En) (x : En) (W : World), I pre W → pre.length < N → assign.wpIn (Fence.wide.inRound l) (n - 1 - 1) P (Exit.then (fun a1 W1 => KeepsOthers W W1 ∧ Kq go W W1 ∧ I pre W1 ∧ ∀ r r', W1.heap[l]? = some (.loop r) → I pre (W1.putObj l (.loop r')) → body.wpIn (Fence.wide.inRound l) (n - 1 - 1) P (rndQ go (I (pre ++ [x])) (W1.putObj l (.loop r'))) a1 (W1.putObj l (.loop r'))) (fun _ _ _ => False)) { tmps := (ps.zip (encs x)).foldl (fun t (p, v) => t.setIfInBounds p v) a.tmps, defers := [] } W)
    (hdone : ∀ (D : Nat) (xs : List En) (W : World), w.heap.size ≤ D → S xs W → I xs W → W.heap[D]? = some (.deferred (some [])) → Q .normal { a with defers := { target := .collected D, args := #[] } :: a.defers } W) :
    (Code.rangeFunc g ps assign body).wpIn Fence.wide n P Q a w := by
  refine wpIn_rangeFunc ?_
  intro fn hfn
  obtain ⟨rc, hrc⟩ : ∃ rc : LoopState → Loop, rc = fun st => { state := st, pending := none, fn, tmps := a.tmps, params := ps, assign, body, defers := w.heap.size } := ⟨_, rfl⟩
  obtain ⟨V, hV⟩ : ∃ V, (w.alloc (.deferred (some []))).alloc (.loop (rc .ready)) = V := ⟨_, rfl⟩
  have hL : V.heap[w.heap.size + 1]? = some (.loop (rc .ready)) := by
    rw [← hV]
    have := World.alloc_heap_new (w.alloc (.deferred (some []))) (.loop (rc .ready))
    rwa [World.size_alloc] at this
  have hD : V.heap[w.heap.size]? = some (.deferred (some [])) := by
    rw [← hV]
    exact (Below.heap_alloc _ _ _ (by simp)).trans (World.alloc_heap_new w _)
  have hB : Below w.heap.size w V := by rw [← hV]; exact ((Below.refl _ w).alloc (Nat.le_refl _) _).alloc (by simp) _
  have hI1 : I [] V := hI [] w V w.heap.size (Nat.le_refl _) h0 (Tr.of_below hB)
  refine ⟨w.heap.size + 1, [{ target := .collected w.heap.size, args := #[] }], V, { target := .fn (.func gf) lb, args := #[.func (.yield (w.heap.size + 1)) #[] #[]] }, V, gf, #[.func (.yield (w.heap.size + 1)) #[] #[]] ++ lb, V, ?_, ?_, fun f' _ => trivial, ?_, fun _ => h1, ?_⟩
  · rw [← hV, hrc]; exact run_enterLoop_outer _ _ _ _ _
  · simp only [resolve, hg]
    simp [go_sem]
  · simp [invoke, go_sem, eg]
  refine (hseq (w.heap.size + 1) (fun pre W => I pre W ∧ W.heap[w.heap.size + 1]? = some (.loop (rc .ready)) ∧ W.heap[w.heap.size]? = some (.deferred (some []))) V hB
    (fun pre A A' hj k => ⟨hI pre A A' _ hB.size hj.1 k, k.other hj.2.1 rfl (by omega) (by omega), k.other hj.2.2 rfl (by omega) (by omega)⟩) (fun pre A hj => hF pre A hj.1) ⟨hI1, hL, hD⟩ ?_).mono ?_
  · rintro pre x W ⟨hi, hl, hd⟩ hlen
    have hlt : w.heap.size + 1 < W.heap.size := (Array.getElem?_eq_some_iff.1 hl).1
    have hy := run_yield (P := P) (args := encs x) hl (by rw [hrc]; exact hps x)
    rw [hrc] at hy
    refine ⟨fn, _, assign, body, hy, roundIn_of_wpIn hfn (wpIn_mono (hround _ pre x W hi hlen) ?_)⟩
    rintro e a1 Wa hpa
    cases e with
    | ret => exact hpa.elim
    | exit id => exact hpa.elim
    | goto t => exact hpa.elim
    | panic ch => exact hpa.elim
    | outgrown => exact hpa.elim
    | normal =>
    obtain ⟨hka, hqa, hia, hbody⟩ := hpa
    have hla := hka.same _ _ hl rfl
    have hda := hka.same _ _ hd rfl
    have hlta : w.heap.size + 1 < Wa.heap.size := (Array.getElem?_eq_some_iff.1 hla).1
    refine ⟨_, run_beginRound hla (by rw [hrc]), ?_⟩
    obtain ⟨rb, hrb⟩ : ∃ rb : Loop, rb = { rc .ready with state := .busy } := ⟨_, rfl⟩
    rw [← hrb]
    have hi2 := hIl pre Wa (w.heap.size + 1) _ rb hia (by omega) hla
    have hbd := hbody _ rb hla hi2
    obtain ⟨W2, hW2⟩ : ∃ W2, Wa.putObj (w.heap.size + 1) (.loop rb) = W2 := ⟨_, rfl⟩
    have hl2 : W2.heap[w.heap.size + 1]? = some (.loop rb) := by rw [← hW2]; exact World.putObj_heap_same hlta
    have hd2 : W2.heap[w.heap.size]? = some (.deferred (some [])) := by rw [← hW2]; exact (World.putObj_heap_other (by omega)).trans hda
    obtain ⟨v1, hv1, _⟩ := hF _ _ hi
    obtain ⟨va, hva, _⟩ := hF _ _ hia
    have hk2 : Kq go W W2 := by rw [← hW2]; exact hqa.trans (Kq.loop hla ⟨va, hva⟩) ⟨v1, hv1⟩
    rw [hW2] at hbd hi2 ⊢
    refine wpIn_mono hbd ?_
    rintro e a3 W3 hp
    cases e with
    | normal =>
      obtain ⟨hk3, hq3, hi3⟩ := hp
      have hl3 := hk3.same _ _ hl2 rfl
      have hd3 := hk3.same _ _ hd2 rfl
      obtain ⟨v3, hv3, _⟩ := hF _ _ hi3
      have hr := run_endRound (P := P) none hl3
      have hre : ({ rb with state := if (none : Option Code).isNone then .ready else .done, pending := none } : Loop) = rc .ready := by rw [hrb, hrc]; rfl
      rw [hre] at hr
      exact ⟨_, _, hr, Or.inl ⟨rfl, ⟨hIl _ _ _ _ _ hi3 (by omega) hl3, World.putObj_heap_same (Array.getElem?_eq_some_iff.1 hl3).1, (World.putObj_heap_other (by omega)).trans hd3⟩, (hk2.trans hq3 ⟨v1, hv1⟩).trans (Kq.loop hl3 ⟨v3, hv3⟩) ⟨v1, hv1⟩⟩⟩
    | ret => exact hp.elim
    | exit id => exact hp.elim
    | goto t => exact hp.elim
    | panic ch => exact hp.elim
    | outgrown => exact hp.elim
  · rintro e W2 ⟨⟨v, rfl⟩, xs, hS, hi, hl, hd⟩
    have hr := run_endLoop (P := P) hl (by rw [hrc]; simp)
    have hre : (rc .ready).pending = none := by rw [hrc]
    rw [hre] at hr
    exact ⟨none, _, hr, hdone _ xs _ (Nat.le_refl _) (hSl _ _ _ _ _ hS (by omega) hl) (hIl _ _ _ _ _ hi (by omega) hl) ((World.putObj_heap_other (by omega)).trans hd)⟩
end Go.Proofs.Ythjppjcmapgkpaa.QAg
