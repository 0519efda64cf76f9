/- OrderStamps: rows that rise, each once (plain); the comparing of two stamps. -/
import Derived.Test.YtgklphcnkplkoaaSK
import Derived.Test.YtgklphcnkplkoaaQStx3
namespace Go.Proofs.Ytgklphcnkplkoaa.QSt
open Go.RowKit Go.Proofs.YtgklphcnkplkoaaW.PrintWords Go.Proofs.YtgklphcnkplkoaaW.PrintLast Go.Proofs.YtgklphcnkplkoaaW.PrintMore
open Go.Proofs.Ytgklphcnkplkoaa.SK (St enc flat flat_len flat_get)
set_option linter.unusedVariables false
set_option linter.unusedSimpArgs false
section
variable {α : Type} (lt : α → α → Prop)
theorem strict_ext (irr : ∀ x, ¬ lt x x) (tr : ∀ x y z, lt x y → lt y z → lt x z) : ∀ l1 l2 : List α, l1.Pairwise lt → l2.Pairwise lt → (∀ x, x ∈ l1 ↔ x ∈ l2) → l1 = l2
  | [], [], _, _, _ => rfl
  | [], b :: t2, _, _, h => absurd ((h b).2 List.mem_cons_self) (by simp)
  | a :: t1, [], _, _, h => absurd ((h a).1 List.mem_cons_self) (by simp)
  | a :: t1, b :: t2, h1, h2, h => by
    rw [List.pairwise_cons] at h1 h2
    have e : a = b := by
      rcases List.mem_cons.1 ((h a).1 List.mem_cons_self) with e | ha
      · exact e
      · rcases List.mem_cons.1 ((h b).2 List.mem_cons_self) with e | hb
        · exact e.symm
        · exact absurd (tr _ _ _ (h1.1 b hb) (h2.1 a ha)) (irr a)
    subst e
    rw [strict_ext irr tr t1 t2 h1.2 h2.2 (fun x => ?_)]
    constructor
    · intro hx
      rcases List.mem_cons.1 ((h x).1 (List.mem_cons_of_mem _ hx)) with e | hx'
      · subst e; exact absurd (h1.1 x hx) (irr x)
      · exact hx'
    · intro hx
      rcases List.mem_cons.1 ((h x).2 (List.mem_cons_of_mem _ hx)) with e | hx'
      · subst e; exact absurd (h2.1 x hx) (irr x)
      · exact hx'
end
section
variable {α : Type} [DecidableEq α] (lt : α → α → Prop) (z : α)
/-- What is left of the first i elements, each that is not its forerunner. -/
def cptN (L : List α) : Nat → List α
  | 0 => []
  | i + 1 => if i = 0 ∨ L.getD i z ≠ L.getD (i - 1) z then cptN L i ++ [L.getD i z] else cptN L i
theorem cptN_succ (L : List α) (i : Nat) : cptN z L (i + 1) = if i = 0 ∨ L.getD i z ≠ L.getD (i - 1) z then cptN z L i ++ [L.getD i z] else cptN z L i := rfl
theorem cptN_le (L : List α) : ∀ i, (cptN z L i).length ≤ i
  | 0 => Nat.le_refl _
  | i + 1 => by
    rw [cptN_succ]
    split
    · rw [List.length_append]; have := cptN_le L i; simp; omega
    · have := cptN_le L i; omega
theorem cptN_pos (L : List α) : ∀ i, 0 < i → 0 < (cptN z L i).length
  | 0, h => absurd h (by omega)
  | i + 1, _ => by
    rw [cptN_succ]
    split
    · rw [List.length_append]; simp
    · rename_i h
      exact cptN_pos L i (by omega)
theorem cptN_mem (L : List α) : ∀ i, i ≤ L.length → ∀ x, x ∈ cptN z L i ↔ x ∈ L.take i
  | 0, _, x => by simp [cptN]
  | i + 1, h, x => by
    have ih := cptN_mem L i (by omega) x
    have e : L.getD i z = L[i] := by rw [List.getD_eq_getElem?_getD, List.getElem?_eq_getElem (by omega)]; rfl
    rw [List.take_succ_eq_append_getElem (by omega), List.mem_append, List.mem_singleton, ← ih, ← e]
    rw [cptN_succ]
    split
    · rw [List.mem_append, List.mem_singleton]
    · rename_i h2
      have h3 : ¬ i = 0 := fun e0 => h2 (.inl e0)
      have h4 : L.getD i z = L.getD (i - 1) z := Decidable.byContradiction fun hn => h2 (.inr hn)
      constructor
      · exact .inl
      · rintro (hx | hx)
        · exact hx
        · rw [hx, h4, cptN_mem L i (by omega)]
          have e1 : L.getD (i - 1) z = L[i - 1]'(by omega) := by rw [List.getD_eq_getElem?_getD, List.getElem?_eq_getElem (by omega)]; rfl
          rw [e1]
          exact List.mem_take_iff_getElem.2 ⟨i - 1, by omega, rfl⟩
theorem cptN_strict (tot : ∀ x y, ¬ lt x y → ¬ lt y x → x = y) (L : List α) (hs : L.Pairwise (fun x y => ¬ lt y x)) : ∀ i, i ≤ L.length → (cptN z L i).Pairwise lt
  | 0, _ => List.Pairwise.nil
  | i + 1, h => by
    have ih := cptN_strict tot L hs i (by omega)
    rw [cptN_succ]
    split
    · rename_i h2
      rw [List.pairwise_append]
      refine ⟨ih, List.pairwise_singleton _ _, fun x hx y hy => ?_⟩
      rw [List.mem_singleton] at hy
      subst hy
      rw [cptN_mem z L i (by omega)] at hx
      obtain ⟨j, hj, rfl⟩ := List.mem_take_iff_getElem.1 hx
      have hji : j < i := by omega
      have hP := List.pairwise_iff_getElem.1 hs
      have e : L.getD i z = L[i] := by rw [List.getD_eq_getElem?_getD, List.getElem?_eq_getElem (by omega)]; rfl
      have e1 : L.getD (i - 1) z = L[i - 1]'(by omega) := by rw [List.getD_eq_getElem?_getD, List.getElem?_eq_getElem (by omega)]; rfl
      rw [e]
      have hne : L[i] ≠ L[i - 1]'(by omega) := by
        rcases h2 with h2 | h2
        · omega
        · rw [e, e1] at h2; exact h2
      apply Classical.byContradiction
      intro hn
      have g1 : L[j] = L[i] := tot _ _ hn (hP j i (by omega) (by omega) hji)
      by_cases hj1 : j = i - 1
      · subst hj1; exact hne g1.symm
      · have g2 : ¬ lt L[i - 1] L[j] := hP j (i - 1) (by omega) (by omega) (by omega)
        rw [g1] at g2
        exact hne (tot _ _ (hP (i - 1) i (by omega) (by omega) (by omega)) g2)
    · exact ih
/-- As long as no element is its forerunner. -/
theorem cptN_take (L : List α) : ∀ k, k ≤ L.length → (∀ i, 0 < i → i < k → L.getD i z ≠ L.getD (i - 1) z) → cptN z L k = L.take k
  | 0, _, _ => rfl
  | k + 1, h, hn => by
    have ih := cptN_take L k (by omega) (fun i h0 h1 => hn i h0 (by omega))
    have e : L.getD k z = L[k] := by rw [List.getD_eq_getElem?_getD, List.getElem?_eq_getElem (by omega)]; rfl
    rw [cptN_succ]
    rw [ih, List.take_succ_eq_append_getElem (by omega), e]
    by_cases h0 : k = 0
    · rw [if_pos (.inl h0)]
    · rw [if_pos (.inr (by have := hn k (by omega) (by omega); rw [e] at this; exact this))]
end
section
variable {α : Type} [DecidableEq α] (lt : α → α → Prop) (z : α)
def insK (out : List α) (x : α) (k : Nat) : List α := if k = out.length ∨ out.getD k z ≠ x then out.take k ++ x :: out.drop k else out
theorem insK_mem (out : List α) (x : α) (k : Nat) (hk : k ≤ out.length) (y : α) : y ∈ insK z out x k ↔ y ∈ out ∨ y = x := by
  unfold insK
  split
  · rw [List.mem_append, List.mem_cons]
    have e : y ∈ out ↔ y ∈ out.take k ∨ y ∈ out.drop k := by rw [← List.mem_append, List.take_append_drop]
    rw [e]
    constructor
    · rintro (h | h | h)
      · exact .inl (.inl h)
      · exact .inr h
      · exact .inl (.inr h)
    · rintro ((h | h) | h)
      · exact .inl h
      · exact .inr (.inr h)
      · exact .inr (.inl h)
  · rename_i h
    have h1 : k < out.length := by omega
    have h2 : out.getD k z = x := Decidable.byContradiction fun hn => h (.inr hn)
    constructor
    · exact .inl
    · rintro (h3 | rfl)
      · exact h3
      · rw [← h2, List.getD_eq_getElem?_getD, List.getElem?_eq_getElem h1]
        exact List.getElem_mem h1
theorem insK_strict (tr : ∀ x y z, lt x y → lt y z → lt x z) (tot : ∀ x y, ¬ lt x y → ¬ lt y x → x = y) (out : List α) (x : α) (k : Nat) (hk : k ≤ out.length) (hs : out.Pairwise lt) (h1 : ∀ i (hi : i < out.length), i < k → lt out[i] x) (h2 : ∀ (hi : k < out.length), ¬ lt out[k] x) : (insK z out x k).Pairwise lt := by
  unfold insK
  split
  · rename_i h
    have hP := List.pairwise_iff_getElem.1 hs
    have hgt : ∀ (hi : k < out.length), lt x out[k] := fun hi => by
      apply Classical.byContradiction
      intro hn
      rcases h with h | h
      · omega
      · rw [List.getD_eq_getElem?_getD, List.getElem?_eq_getElem hi] at h
        exact h (tot _ _ (h2 hi) hn)
    have hdrop : ∀ y, y ∈ out.drop k → lt x y := fun y hy => by
      obtain ⟨i, hi, rfl⟩ := List.mem_iff_getElem.1 hy
      rw [List.length_drop] at hi
      rw [List.getElem_drop]
      by_cases e : i = 0
      · subst e; exact hgt (by omega)
      · exact tr _ _ _ (hgt (by omega)) (hP k (k + i) (by omega) (by omega) (by omega))
    have htake : ∀ y, y ∈ out.take k → lt y x := fun y hy => by
      obtain ⟨i, hi, rfl⟩ := List.mem_take_iff_getElem.1 hy
      exact h1 i (by omega) (by omega)
    rw [List.pairwise_append, List.pairwise_cons]
    refine ⟨hs.sublist (List.take_sublist _ _), ⟨fun y hy => hdrop y hy, hs.sublist (List.drop_sublist _ _)⟩, fun a ha b hb => ?_⟩
    rcases List.mem_cons.1 hb with rfl | hb
    · exact htake a ha
    · exact tr _ _ _ (htake a ha) (hdrop b hb)
  · exact hs
end

/-! ### Stamps -/
def ltS (x y : St) : Prop := x.1 < y.1 ∨ (x.1 = y.1 ∧ x.2 < y.2)
theorem ltS_irr (x : St) : ¬ ltS x x := by unfold ltS; omega
theorem ltS_tr (x y z : St) (h : ltS x y) (g : ltS y z) : ltS x z := by unfold ltS at *; omega
theorem ltS_tot (x y : St) (h : ¬ ltS x y) (g : ¬ ltS y x) : x = y := by
  obtain ⟨a, b⟩ := x
  obtain ⟨c, d⟩ := y
  unfold ltS at *
  simp only at h g
  rw [Prod.mk.injEq]
  omega
def cmpI (x y : St) : Int := if x.1 = y.1 then (if x.2 = y.2 then 0 else if x.2 < y.2 then -1 else 1) else if x.1 < y.1 then -1 else 1
theorem cmpI_lt (x y : St) : cmpI x y < 0 ↔ ltS x y := by
  unfold cmpI ltS
  split
  · split
    · omega
    · split <;> omega
  · split <;> omega
set_option maxRecDepth 100000 in
theorem mcmp_calls (x y : St) (w : World) : Calls Try.prog 33 #[.agg #[.int .i64 x.1, .int .i64 x.2], .agg #[.int .i64 y.1, .int .i64 y.2]] w fun e w' => e = .returned (.int .i64 (cmpI x y)) ∧ w' = (w.alloc (.cells #[.int .i64 x.1, .int .i64 x.2] 58)).alloc (.cells #[.int .i64 y.1, .int .i64 y.2] 58) := by
  obtain ⟨a, b⟩ := x
  obtain ⟨c, d⟩ := y
  have hu58 := Try.underlying58
  dsimp only
  by_cases e : a = c
  · subst e
    have d0 : decide (a < a) = false := decide_eq_false (by omega)
    by_cases f : b = d
    · subst f
      have hc : cmpI (a, b) (a, b) = 0 := by unfold cmpI; simp
      rw [hc]
      clear hc
      go_enter Try.func33, Try.ntmps33
      go_wp2
      go_ret
      exact ⟨rfl, rfl⟩
    · have b0 : (b == d) = false := by simpa using f
      by_cases g : b < d
      · have hc : cmpI (a, b) (a, d) = -1 := by unfold cmpI; simp [f, g]
        rw [hc]
        have b1 : decide (b < d) = true := decide_eq_true g
        clear f g hc
        go_enter Try.func33, Try.ntmps33
        go_wp2
        go_ret
        exact ⟨rfl, rfl⟩
      · have hc : cmpI (a, b) (a, d) = 1 := by unfold cmpI; simp [f, g]
        rw [hc]
        have b1 : decide (b < d) = false := decide_eq_false g
        clear f g hc
        go_enter Try.func33, Try.ntmps33
        go_wp2
        go_ret
        exact ⟨rfl, rfl⟩
  · have b0 : (a == c) = false := by simpa using e
    by_cases g : a < c
    · have hc : cmpI (a, b) (c, d) = -1 := by unfold cmpI; simp [e, g]
      rw [hc]
      have b1 : decide (a < c) = true := decide_eq_true g
      clear e g hc
      go_enter Try.func33, Try.ntmps33
      go_wp2
      go_ret
      exact ⟨rfl, rfl⟩
    · have hc : cmpI (a, b) (c, d) = 1 := by unfold cmpI; simp [e, g]
      rw [hc]
      have b1 : decide (a < c) = false := decide_eq_false g
      clear e g hc
      go_enter Try.func33, Try.ntmps33
      go_wp2
      go_ret
      exact ⟨rfl, rfl⟩
theorem cmp_f (x y : St) : order_moment_compare.f x.1 x.2 y.1 y.2 = some (cmpI x y) := by
  unfold order_moment_compare.f cmpI
  by_cases e : x.1 = y.1 <;> by_cases f : x.2 = y.2 <;> by_cases g : x.1 < y.1 <;> by_cases h : x.2 < y.2 <;> simp [e, f, g, h] <;> omega
theorem rcmp_f (x y : St) : rampartref07_Compare.f x.1 x.2 y.1 y.2 = some (cmpI x y) := by
  unfold rampartref07_Compare.f cmpI
  by_cases e : x.1 = y.1 <;> by_cases f : x.2 = y.2 <;> by_cases g : x.1 < y.1 <;> by_cases h : x.2 < y.2 <;> simp [e, f, g, h] <;> omega
theorem rcmp_calls (x y : St) (w : World) : Calls Try.prog 26 #[.agg #[.int .i64 x.1, .int .i64 x.2], .agg #[.int .i64 y.1, .int .i64 y.2]] w fun e w' => e = .returned (.int .i64 (cmpI x y)) ∧ Below w.heap.size w w' := rampartref07_Compare.calls _ _ _ _ _ w (rcmp_f x y)
theorem ocmp_calls (x y : St) (w : World) : Calls Try.prog 25 #[.agg #[.int .i64 x.1, .int .i64 x.2], .agg #[.int .i64 y.1, .int .i64 y.2]] w fun e w' => e = .returned (.int .i64 (cmpI x y)) ∧ Below w.heap.size w w' := order_Compare.calls _ _ _ _ _ w (by unfold order_Compare.f; rw [cmp_f]; rfl)
end Go.Proofs.Ytgklphcnkplkoaa.QSt
