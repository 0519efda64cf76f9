/- Lane: cmp.Compare, the closure of Reset, slices.SortFunc by its contract. -/
import Derived.Test.YtglekbbdbnpohaaXLn
import Derived.Shelf.SlSortCmp.NoneTotal
import Derived.Shelf.Lay
import Derived.Ground.SlsfProg
import Derived.Lib.OwnBridge
namespace Go.Proofs
open Go.Shelf Go.RowKit Go.Lib Go.Sort
shelf_lay_g SlLaysF.n6 Slsf 6 at Try 47 as Try.sortU
end Go.Proofs
namespace Go.Proofs.Ytglekbbdbnpohaa.QLn
open Go.Shelf Go.RowKit Go.Sort Go.Proofs.YtglekbbdbnpohaaW.PrintWords Go.Proofs.YtglekbbdbnpohaaW.PrintLast Go.Proofs.YtglekbbdbnpohaaW.PrintMore
set_option linter.unusedVariables false
set_option linter.unusedSimpArgs false
def cmpN (p q : Int) : Int := if p < q then -1 else if q < p then 1 else 0
theorem nan_calls (x : Int) (w : World) : Calls Try.prog 49 #[.int .u64 x] w fun e w' => e = .returned (.bool false) ∧ w' = w := by
  go_enter Try.func49, Try.ntmps49
  go_wp2
  go_ret
  exact ⟨by simp, rfl⟩
theorem compare_calls (x y : Int) (w : World) : Calls Try.prog 40 #[.int .u64 x, .int .u64 y] w fun e w' => e = .returned (.int .i64 (cmpN x y)) ∧ w' = w := by
  by_cases h1 : x < y
  · have d1 : decide (x < y) = true := decide_eq_true h1
    have HF : Aside0 (cmpN x y = -1) := ⟨by unfold cmpN; rw [if_pos h1]⟩
    go_enter Try.func40, Try.ntmps40
    go_wp2_with (first | (go_at_call 49; refine (nan_calls _ _).mono ?_; rintro e1 w1 ⟨rfl, rfl⟩))
    go_ret
    rw [HF.out]
    exact ⟨rfl, rfl⟩
  · by_cases h2 : y < x
    · have d1 : decide (x < y) = false := decide_eq_false h1
      have d2 : decide (y < x) = true := decide_eq_true h2
      have d3 : decide (x > y) = true := decide_eq_true h2
      have HF : Aside0 (cmpN x y = 1) := ⟨by unfold cmpN; rw [if_neg h1, if_pos h2]⟩
      go_enter Try.func40, Try.ntmps40
      go_wp2_with (first | (go_at_call 49; refine (nan_calls _ _).mono ?_; rintro e1 w1 ⟨rfl, rfl⟩))
      go_ret
      rw [HF.out]
      exact ⟨rfl, rfl⟩
    · have d1 : decide (x < y) = false := decide_eq_false h1
      have d2 : decide (y < x) = false := decide_eq_false h2
      have d3 : decide (x > y) = false := decide_eq_false h2
      have HF : Aside0 (cmpN x y = 0) := ⟨by unfold cmpN; rw [if_neg h1, if_neg h2]⟩
      go_enter Try.func40, Try.ntmps40
      go_wp2_with (first | (go_at_call 49; refine (nan_calls _ _).mono ?_; rintro e1 w1 ⟨rfl, rfl⟩))
      go_ret
      rw [HF.out]
      exact ⟨rfl, rfl⟩
def dist (base x : Int) : Int := IntKind.u64.wrap (x - base)
theorem clo_calls (Bl b : Nat) (base x y : Int) (w : World) (h1 : w.cell? ⟨Bl, 0, none⟩ = some (.pointer (some ⟨b, 0, none⟩))) (h2 : w.cell? ⟨b, 324, none⟩ = some (.int .u64 base)) :
    Calls Try.prog 39 #[.int .u64 x, .int .u64 y, .pointer (some ⟨Bl, 0, none⟩)] w fun e w' => e = .returned (.int .i64 (cmpN (dist base x) (dist base y))) ∧ ∃ nd, w' = w.drewN nd := by
  have HC : Aside0 (∀ w, Calls Try.prog 40 #[.int .u64 (IntKind.u64.wrap (x - base)), .int .u64 (IntKind.u64.wrap (y - base))] w fun e w' => e = .returned (.int .i64 (cmpN (dist base x) (dist base y))) ∧ ∃ nd, w' = w.drewN nd) :=
    ⟨fun w => (compare_calls _ _ w).mono (fun e w' h => ⟨h.1, 0, h.2⟩)⟩
  go_enter Try.func39, Try.ntmps39
  go_upto_region 1 with fail
  go_quiet (first | (go_at_call 40; refine (HC.out _).mono ?_; rintro e w' ⟨rfl, ⟨nd, rfl⟩⟩; (try first | exact ⟨rfl, _, World.drewN_drewN _ _ _⟩ | exact ⟨rfl, _, Eq.trans (World.drewN_drewN _ _ _) (congrArg (World.drewN _) (Nat.add_assoc _ _ _))⟩)))
  go_wp2
  go_ret
  exact ⟨rfl, nq, rfl⟩
/-! ### The order -/
abbrev U : Type := {x : Int // U64 x}
instance : Inhabited U := ⟨⟨0, by unfold U64; omega⟩⟩
def encU (x : U) : Value := .int .u64 x.1
theorem one_enc : OneCell encU := fun x => rfl
def cfU (base : Int) (x y : U) : Int := cmpN (dist base x.1) (dist base y.1)
theorem lt_cf (base : Int) (x y : U) : ltOf (cfU base) x y = true ↔ dist base x.1 < dist base y.1 := by
  unfold ltOf cfU cmpN
  rw [decide_eq_true_iff]
  split
  · rename_i h; simp [h]
  · rename_i h
    split
    · simp [h]
    · simp [h]
theorem lt_cf_false (base : Int) (x y : U) : ltOf (cfU base) x y = false ↔ ¬ dist base x.1 < dist base y.1 := by
  rw [← lt_cf]; simp
theorem swo_cf (base : Int) : SWO (ltOf (cfU base)) where
  irrefl x := by rw [lt_cf_false]; omega
  trans x y z h1 h2 := by rw [lt_cf] at *; omega
  ntrans x y z h1 h2 := by rw [lt_cf_false] at *; omega
theorem tot_cf {base : Int} (hb : U64 base) (x y : U) (h1 : ltOf (cfU base) x y = false) (h2 : ltOf (cfU base) y x = false) : x = y := by
  rw [lt_cf_false] at *
  have hx := x.2
  have hy := y.2
  apply Subtype.ext
  unfold dist at *
  rw [IntKind.wrap_u64, IntKind.wrap_u64] at *
  unfold U64 at *
  omega
theorem sort_far {w : World} {blk m : Nat} {dk : Array U} {os : Array Obj} {k : Nat} {o : Obj} (hk : k ≠ blk) (h : w.heap[k]? = some o) : (sortWorld encU w blk 0 m dk os).heap[k]? = some o := by
  have hlt := (Array.getElem?_eq_some_iff.1 h).1
  unfold sortWorld
  simp only [grow]
  rw [Array.getElem?_append_left (by simp [putRow, mapBlock, Sort.ahead]; omega)]
  simp only [putRow, mapBlock, Sort.ahead, Array.getElem?_modify]
  rw [if_neg (Ne.symm hk)]
  exact h
theorem cmpLays (base : Int) (b Bl blk size : Nat) (w : World) (h1 : w.heap[Bl]? = some (.cells #[.pointer (some ⟨b, 0, none⟩)] 25 (0, 0))) (hb : ∃ A, w.heap[b]? = some (.cells A 67 (0, 0)) ∧ A[324]? = some (.int .u64 base)) (hne1 : Bl ≠ blk) (hne2 : b ≠ blk) :
    CmpLays1 Try.prog 39 #[.pointer (some ⟨Bl, 0, none⟩)] encU (cfU base) blk 0 size w := fun m os dk _ x y => by
  obtain ⟨A, hA, hA2⟩ := hb
  have e1 := sort_far (m := m) (dk := dk) (os := os) hne1 h1
  have e2 := sort_far (m := m) (dk := dk) (os := os) hne2 hA
  refine (clo_calls Bl b base x.1 y.1 _ (by simp only [World.cell?, e1]; rfl) (by simp only [World.cell?, e2]; exact hA2)).mono ?_
  rintro e w' ⟨rfl, nd, rfl⟩
  exact ⟨rfl, nd, #[], by rw [grow_empty]⟩
def srtU (base : Int) (ss : List U) : List U := ss.mergeSort fun x y => !(ltOf (cfU base) y x)
theorem own_grow {w : World} {os : Array Obj} {base : Nat} {e : TypeId} {size n : Nat} {v : Value} {xs : List Value} (h : w.ownsRow base e size v n xs) : (grow w os).ownsRow base e size v n xs :=
  own_move h (fun k hk => by
    obtain ⟨cells, hc⟩ := own_typed h k hk
    have := (Array.getElem?_eq_some_iff.1 hc).1
    simp only [grow]
    exact Array.getElem?_append_left this)
theorem sort_calls (base : Int) (b Bl B0 : Nat) (ss : List U) (v : Value) (w : World) (hown : w.ownsRow B0 22 1 v ss.length (ss.map encU)) (h1 : w.heap[Bl]? = some (.cells #[.pointer (some ⟨b, 0, none⟩)] 25 (0, 0)))
    (hb : ∃ A, w.heap[b]? = some (.cells A 67 (0, 0)) ∧ A[324]? = some (.int .u64 base)) (hn1 : Bl < B0) (hn2 : b < B0) (hbase : U64 base) (hlen : ss.length < 1000000) (hB0 : B0 ≤ w.heap.size) :
    Calls Try.prog 47 #[v, .func (.func 39) #[] #[.pointer (some ⟨Bl, 0, none⟩)]] w fun e w' => e = .returned (.tuple #[]) ∧ w'.ownsRow B0 22 1 v ss.length ((srtU base ss).map encU) ∧ Below B0 w w' := by
  by_cases hv : v = .slice none 0 0
  · subst hv
    have h0 : ss.length = 0 := by
      rcases hown.2 with ⟨_, h⟩ | ⟨g, cap, cur, e, _⟩
      · exact h
      · cases e
    have hnil : ss = [] := List.eq_nil_of_length_eq_zero h0
    subst hnil
    have hcon := AnyF.slices_SortFunc_none { Try.sortU with } none 0 (.func (.func 39) #[] #[.pointer (some ⟨Bl, 0, none⟩)]) w
    change Calls Try.prog 47 _ _ _ at hcon
    refine hcon.mono ?_
    rintro e w' ⟨rfl, rfl⟩
    exact ⟨rfl, by simpa [srtU] using hown, Below.refl _ _⟩
  · obtain ⟨g, cap, rfl, hbg, hgl, hnc, hcm, _, hH⟩ := Lib.holds_of_ownsRow hown hv
    have eg : ∀ args w, (callFunc 39 args).run Try.prog w = .ok (.enter 39 args) w := enters_of Try.func39 (by kernel_rfl) rfl
    have hcon := Any.slices_SortFunc_total Try.sortU encU one_enc (cfU base) (swo_cf base) 39 #[.pointer (some ⟨Bl, 0, none⟩)] g 0 cap ss.toArray w eg (cmpLays base b Bl g _ w h1 hb (by omega) (by omega)) hH hgl (by simp; omega) (tot_cf hbase)
    change Calls Try.prog 47 _ _ _ at hcon
    simp only [List.size_toArray] at hcon
    refine hcon.mono ?_
    rintro e w' ⟨rfl, n, os, rfl⟩
    have hl : (srtU base ss).length = ss.length := List.length_mergeSort ss
    refine ⟨rfl, ?_, ?_⟩
    · unfold sortWorld
      have h2 := Lib.ownsRow_putRow (q := n) hown hl (Nat.le_refl _)
      rw [List.take_of_length_le (by rw [hl]; exact Nat.le_refl _)] at h2
      exact own_grow h2
    · unfold sortWorld
      have h3 := Lib.below_putRow (enc := encU) (q := n) (d := (srtU base ss).toArray) (Below.refl B0 w) hbg
      refine ⟨h3.os, h3.tape, h3.output, ?_, fun k hk => ?_⟩
      · have := h3.size
        simp only [grow, Array.size_append]
        exact Nat.le_trans this (Nat.le_add_right _ _)
      · rw [← h3.block k hk]
        simp only [grow]
        exact Array.getElem?_append_left (by simp [putRow, mapBlock, Sort.ahead]; omega)
section
variable {α : Type} (lt : α → α → Prop)
theorem strict_ext (irr : ∀ x, ¬ lt x x) (tr : ∀ x y z, lt x y → lt y z → lt x z) : ∀ l1 l2 : List α, l1.Pairwise lt → l2.Pairwise lt → (∀ x, x ∈ l1 ↔ x ∈ l2) → l1 = l2
  | [], [], _, _, _ => rfl
  | [], b :: t2, _, _, h => absurd ((h b).2 List.mem_cons_self) (by simp)
  | a :: t1, [], _, _, h => absurd ((h a).1 List.mem_cons_self) (by simp)
  | a :: t1, b :: t2, h1, h2, h => by
    rw [List.pairwise_cons] at h1 h2
    have e : a = b := by
      rcases List.mem_cons.1 ((h a).1 List.mem_cons_self) with e | ha
      · exact e
      · rcases List.mem_cons.1 ((h b).2 List.mem_cons_self) with e | hb
        · exact e.symm
        · exact absurd (tr _ _ _ (h1.1 b hb) (h2.1 a ha)) (irr a)
    subst e
    rw [strict_ext irr tr t1 t2 h1.2 h2.2 (fun x => ?_)]
    constructor
    · intro hx
      rcases List.mem_cons.1 ((h x).1 (List.mem_cons_of_mem _ hx)) with e | hx'
      · subst e; exact absurd (h1.1 x hx) (irr x)
      · exact hx'
    · intro hx
      rcases List.mem_cons.1 ((h x).2 (List.mem_cons_of_mem _ hx)) with e | hx'
      · subst e; exact absurd (h2.1 x hx) (irr x)
      · exact hx'
end
theorem srt_eq {base : Int} (hb : U64 base) (ss ks : List U) (hp : ss.Perm ks) (hk : ks.Pairwise (fun x y => dist base x.1 < dist base y.1)) : srtU base ss = ks := by
  have hnd : ks.Nodup := hk.imp (fun {x y} h e => by subst e; omega)
  have hnd2 : (srtU base ss).Nodup := ((List.mergeSort_perm ss _).trans hp).nodup_iff.2 hnd
  have hs : (srtU base ss).Pairwise (fun x y => (!(ltOf (cfU base) y x)) = true) := by
    refine List.pairwise_mergeSort (le := fun x y => !(ltOf (cfU base) y x)) ?_ ?_ ss
    · intro x y z h1 h2
      have a : ¬ dist base y.1 < dist base x.1 := (lt_cf_false base y x).1 (by simpa using h1)
      have b : ¬ dist base z.1 < dist base y.1 := (lt_cf_false base z y).1 (by simpa using h2)
      have : ltOf (cfU base) z x = false := (lt_cf_false base z x).2 (by omega)
      simp [this]
    · intro x y
      by_cases h : dist base y.1 < dist base x.1
      · have : ltOf (cfU base) x y = false := (lt_cf_false base x y).2 (by omega)
        simp [this]
      · have : ltOf (cfU base) y x = false := (lt_cf_false base y x).2 h
        simp [this]
  refine strict_ext (fun x y : U => dist base x.1 < dist base y.1) (fun x => by omega) (fun x y z h1 h2 => by omega) _ _ ?_ hk (fun x => ((List.mergeSort_perm ss _).trans hp).mem_iff)
  refine (hs.and hnd2).imp (fun {x y} h => ?_)
  have a : ltOf (cfU base) y x = false := by simpa using h.1
  rcases Int.lt_or_le (dist base x.1) (dist base y.1) with h3 | h3
  · exact h3
  · exact absurd (tot_cf hb x y ((lt_cf_false base x y).2 (by omega)) a) h.2
def toU (l : List Int) (h : ∀ x ∈ l, U64 x) : List U := l.pmap (fun x hx => ⟨x, hx⟩) h
theorem toU_enc (l : List Int) (h : ∀ x ∈ l, U64 x) : (toU l h).map encU = l.map (Value.int .u64) := by
  unfold toU
  induction l with
  | nil => rfl
  | cons x l ih => rw [List.pmap_cons, List.map_cons, List.map_cons, ih (fun y hy => h y (List.mem_cons_of_mem _ hy))]; rfl
set_option maxRecDepth 100000 in
theorem sortedFunc_calls (base : Int) (b Bl Bn mb n : Nat) (D : DataW Past) (L : List (Int × Past)) (hL : Lst D L) (hlen : L.length < 1000000) (hu : ∀ x ∈ L, U64 x.1) (hs : L.Pairwise (fun x y => dist base x.1 < dist base y.1)) (hbase : U64 base)
    (w : World) (hBn : w.cell? ⟨Bn, 0, none⟩ = some (.map (some mb))) (hown : w.ownsMap Try.prog 22 Rp mb n D) (h1 : w.heap[Bl]? = some (.cells #[.pointer (some ⟨b, 0, none⟩)] 25 (0, 0))) (hb : ∃ A, w.heap[b]? = some (.cells A 67 (0, 0)) ∧ A[324]? = some (.int .u64 base)) :
    Calls Try.prog 37 #[.func (.func 48) #[] #[.pointer (some ⟨Bn, 0, none⟩)], .func (.func 39) #[] #[.pointer (some ⟨Bl, 0, none⟩)]] w fun e w' =>
      ∃ v, e = .returned v ∧ w'.ownsRow w.heap.size 22 1 v L.length (L.map (fun x => Value.int .u64 x.1)) ∧ Below w.heap.size w w' := by
  have HL := Aside0.mk hL
  have HH := Aside0.mk (And.intro h1 hb)
  have HU : Aside0 (∀ x ∈ L.map Prod.fst, U64 x) := ⟨fun x hx => by obtain ⟨y, hy, rfl⟩ := List.mem_map.1 hx; exact hu y hy⟩
  have HS := Aside0.mk hs
  have HBS := Aside0.mk hbase
  have HLEN := Aside0.mk hlen
  have HM := Aside0.mk (And.intro hBn hown)
  clear hL h1 hb hu hs hbase hlen hBn hown
  go_enter Try.func37, Try.ntmps37
  go_upto_region 2 with (go_at_call 46; refine (collect_calls Bn mb n D L HL.out HLEN.out _ HM.out.1 HM.out.2).mono ?_; rintro e1 w1 ⟨v, ss, rfl, hp, hrow, hb1⟩; have HX := Aside0.mk (And.intro hp (And.intro hrow hb1)); clear hp hrow hb1)
  have hss : ∀ x ∈ ss, U64 x := fun x hx => HU.out x (HX.out.1.mem_iff.1 hx)
  have hlss : ss.length = L.length := by rw [HX.out.1.length_eq, List.length_map]
  have hl1 : (toU ss hss).length = ss.length := List.length_pmap
  have hrow := HX.out.2.1
  rw [← toU_enc ss hss, ← hl1] at hrow
  have hbl : Below w.heap.size w w1 := HX.out.2.2
  have HSORT : Aside0 (Calls Try.prog 47 #[v, .func (.func 39) #[] #[.pointer (some ⟨Bl, 0, none⟩)]] w1 fun e w' => e = .returned (.tuple #[]) ∧ w'.ownsRow w.heap.size 22 1 v (toU ss hss).length ((srtU base (toU ss hss)).map encU) ∧ Below w.heap.size w1 w') := by
    obtain ⟨A, hA, hA2⟩ := HH.out.2
    exact ⟨sort_calls base b Bl w.heap.size (toU ss hss) v w1 hrow (obj_below hbl HH.out.1) ⟨A, obj_below hbl hA, hA2⟩ (Array.getElem?_eq_some_iff.1 HH.out.1).1 (Array.getElem?_eq_some_iff.1 hA).1 HBS.out (by rw [hl1, hlss]; exact HLEN.out) hbl.size⟩
  have HHL := Aside0.mk (And.intro hl1 hlss)
  have HBL := Aside0.mk hbl
  clear hrow hbl hl1 hlss
  go_wp2_with (go_at_call 47; refine (HSORT.out).mono ?_; rintro e2 w2 ⟨rfl, hrow2, hb2⟩; have HY := Aside0.mk (And.intro hrow2 hb2); clear hrow2 hb2)
  go_ret
  have hkeys : srtU base (toU ss hss) = toU (L.map Prod.fst) HU.out := by
    refine srt_eq HBS.out _ _ ?_ ?_
    · exact HX.out.1.pmap _ 
    · unfold toU
      rw [List.pairwise_pmap, List.pairwise_map]
      exact HS.out.imp (fun h _ _ => h)
  have h9 := HY.out.1
  rw [hkeys, toU_enc, HHL.out.1, HHL.out.2, List.map_map] at h9
  exact ⟨v, rfl, h9, HBL.out.trans HY.out.2⟩
end Go.Proofs.Ytglekbbdbnpohaa.QLn
