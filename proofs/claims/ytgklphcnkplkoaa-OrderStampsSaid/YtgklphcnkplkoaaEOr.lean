/- OrderStamps: slices.SortFunc at stamps, by its contract. -/
import Derived.Test.YtgklphcnkplkoaaDOr
import Derived.Shelf.SlSortCmp.NoneTotal
import Derived.Shelf.Lay
import Derived.Ground.SlsfProg
namespace Go.Proofs
open Go.Shelf Go.RowKit Go.Lib Go.Sort
shelf_lay_g SlLaysF0.n6 Slsf 6 at Try 34 as Try.sortSt
end Go.Proofs
namespace Go.Proofs.Ytgklphcnkplkoaa.QSt
open Go.Shelf Go.RowKit Go.Sort
open Go.Proofs.Ytgklphcnkplkoaa.SK (St enc flat flat_len flat_get block_sorted holds_of_block)
theorem lt_cmp (x y : St) : ltOf cmpI x y = true ↔ ltS x y := by
  unfold ltOf
  rw [decide_eq_true_iff]
  exact cmpI_lt x y
theorem swo_cmp : SWO (ltOf cmpI) where
  irrefl x := by
    cases h : ltOf cmpI x x with
    | false => rfl
    | true => exact absurd ((lt_cmp x x).1 h) (ltS_irr x)
  trans x y z h1 h2 := (lt_cmp x z).2 (ltS_tr x y z ((lt_cmp x y).1 h1) ((lt_cmp y z).1 h2))
  ntrans x y z h1 h2 := by
    cases h : ltOf cmpI x z with
    | false => rfl
    | true =>
      have a := (lt_cmp x z).1 h
      have b : ¬ ltS x y := fun e => by rw [(lt_cmp x y).2 e] at h1; cases h1
      have c : ¬ ltS y z := fun e => by rw [(lt_cmp y z).2 e] at h2; cases h2
      unfold ltS at *
      omega
theorem tot_cmp (x y : St) (h1 : ltOf cmpI x y = false) (h2 : ltOf cmpI y x = false) : x = y :=
  ltS_tot x y (fun e => by rw [(lt_cmp x y).2 e] at h1; cases h1) (fun e => by rw [(lt_cmp y x).2 e] at h2; cases h2)
theorem cmpLays (blk off size : Nat) (w : World) : CmpLays Try.prog 33 #[] enc 2 cmpI blk off size w :=
  fun _ _ _ _ x y => by
    refine (mcmp_calls x y _).mono ?_
    rintro e w' ⟨rfl, rfl⟩
    exact ⟨rfl, 0, _, by rw [alloc_eq_grow, alloc_eq_grow, grow_grow]; rfl⟩
/-- What the sort leaves of a row. -/
def srt (L : List St) : List St := L.mergeSort fun x y => !(ltOf cmpI y x)
theorem srt_len (L : List St) : (srt L).length = L.length := List.length_mergeSort L
theorem srt_mem (L : List St) (x : St) : x ∈ srt L ↔ x ∈ L := List.mem_mergeSort
theorem srt_sorted (L : List St) : (srt L).Pairwise (fun x y => ¬ ltS y x) := by
  have h := List.pairwise_mergeSort (le := fun x y => !(ltOf cmpI y x)) ?_ ?_ L
  · refine h.imp fun {x y} hxy hlt => ?_
    rw [(lt_cmp y x).2 hlt] at hxy
    exact absurd hxy (by decide)
  · intro x y z h1 h2
    cases h : ltOf cmpI z x with
    | false => rfl
    | true =>
      have a := (lt_cmp z x).1 h
      have b : ¬ ltS y x := fun e => by rw [(lt_cmp y x).2 e] at h1; exact absurd h1 (by decide)
      have c : ¬ ltS z y := fun e => by rw [(lt_cmp z y).2 e] at h2; exact absurd h2 (by decide)
      unfold ltS at *
      omega
  · intro x y
    cases h : ltOf cmpI y x with
    | false => rfl
    | true =>
      cases g : ltOf cmpI x y with
      | false => rfl
      | true =>
        have a := (lt_cmp y x).1 h
        have b := (lt_cmp x y).1 g
        unfold ltS at *
        omega
theorem cpt_srt (L T : List St) (hT : T.Pairwise ltS) (hm : ∀ x, x ∈ T ↔ x ∈ L) : cptN (0, 0) (srt L) (srt L).length = T := by
  refine strict_ext ltS ltS_irr ltS_tr _ _ (cptN_strict ltS (0, 0) ltS_tot (srt L) (srt_sorted L) _ (Nat.le_refl _)) hT (fun x => ?_)
  rw [cptN_mem (0, 0) (srt L) _ (Nat.le_refl _), List.take_length, srt_mem, hm]
set_option maxHeartbeats 1000000 in
theorem sort_calls (g cap : Nat) (L : List St) (w : World) (h : Row g L w) (h40 : L.length ≤ 40) : Calls Try.prog 34 #[.slice (some ⟨g, 0, none⟩) L.length cap, .func (.func 33) #[] #[]] w fun e w' => e = .returned (.tuple #[]) ∧ (∀ cur, w.heap[g]? = some (.cells cur 58 (0, 0)) → ∃ cur', w'.heap[g]? = some (.cells cur' 58 (0, 0)) ∧ cur'.size = cur.size ∧ cur'.toList.take (L.length * 2) = flat (srt L)) ∧ (∀ base, base ≤ g → Below base w w') := by
  have eg : ∀ args w, (callFunc 33 args).run Try.prog w = .ok (.enter 33 args) w := enters_of Try.func33 (by kernel_rfl) rfl
  obtain ⟨cur, hb, hs, ht⟩ := h.blk
  have hcon := AnyQ.slices_SortFunc_total Try.sortSt 2 Try.isAgg58 Try.sizeOf58 enc (fun _ => rfl) (fun x v hv => by simp [enc] at hv; rcases hv with rfl | rfl <;> rfl) cmpI swo_cmp 33 #[] g 0 cap L.toArray w eg (cmpLays g 0 _ w) (holds_of_block rfl hb ht) (Array.getElem?_eq_some_iff.1 hb).1 (by simp; omega) tot_cmp
  change Calls Try.prog 34 _ _ _ at hcon
  simp only [List.size_toArray] at hcon
  refine hcon.mono ?_
  rintro e w' ⟨rfl, n, os, rfl⟩
  refine ⟨rfl, ?_, ?_⟩
  · intro cur2 hb2
    rw [hb] at hb2
    injection hb2 with hb2
    injection hb2 with hb2
    subst hb2
    exact block_sorted (l := L) (m := n) (os := os) (ys := srt L) hb hs (srt_len L)
  · intro base hg
    unfold sortWorldK putRowK
    have hlt : g < w.heap.size := (Array.getElem?_eq_some_iff.1 hb).1
    have h1 := Lib.below_putRow (enc := id) (q := n) (d := flatK enc 2 (srt L).toArray) (Below.refl base w) hg
    refine ⟨h1.os, h1.tape, h1.output, ?_, fun k hk => ?_⟩
    · have := h1.size
      simp only [grow, Array.size_append]
      exact Nat.le_trans this (Nat.le_add_right _ _)
    · rw [← h1.block k hk]
      simp only [grow]
      exact Array.getElem?_append_left (by simp [putRow, mapBlock, Sort.ahead]; omega)
end Go.Proofs.Ytgklphcnkplkoaa.QSt
