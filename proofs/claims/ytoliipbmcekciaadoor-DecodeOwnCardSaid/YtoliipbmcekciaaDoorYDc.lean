/- Decode: the law DecodeOwn walked. -/
import Derived.Test.YtoliipbmcekciaaDoorV0Dc
namespace Go.Proofs.YtoliipbmcekciaaDoor.QDc
open Go.RowKit Go.Shelf Go.Proofs.YtoliipbmcekciaaDoorW.PrintWords Go.Proofs.YtoliipbmcekciaaDoorW.PrintLast Go.Proofs.YtoliipbmcekciaaDoorW.PrintMore
set_option linter.unusedVariables false
set_option linter.unusedSimpArgs false
/-- The bytes of the tick that the law makes. -/
def oth (B l2 : List (List Int)) (owner : Nat) (j : Nat) : List Int := if j = owner then B.getD j [] else if j < l2.length ∧ (l2.getD j []).length ≤ 120 then l2.getD j [] else []
def OL (B l2 : List (List Int)) (owner m : Nat) : List (List Int) := (List.range m).map (oth B l2 owner)
theorem OL_len (B l2 : List (List Int)) (owner m : Nat) : (OL B l2 owner m).length = m := by unfold OL; rw [List.length_map, List.length_range]
theorem OL_short {B l2 : List (List Int)} (h : ∀ x ∈ B, x.length ≤ 120) (owner m : Nat) : ∀ x ∈ OL B l2 owner m, x.length ≤ 1000 := by
  intro x hx
  unfold OL at hx
  obtain ⟨j, _, rfl⟩ := List.mem_map.1 hx
  unfold oth
  split
  · by_cases hj : j < B.length
    · rw [List.getD_eq_getElem?_getD, List.getElem?_eq_getElem hj]
      have := h _ (List.getElem_mem hj)
      show B[j].length ≤ 1000
      omega
    · rw [List.getD_eq_getElem?_getD, List.getElem?_eq_none (by omega)]
      simp
  · split
    · rename_i h2; omega
    · simp
theorem OL_items (B l2 : List (List Int)) (owner : Nat) (reqs : Int) (h : owner < B.length) : items (OL B l2 owner (owner + 1)) (owner : Int) reqs = items B (owner : Int) reqs := by
  unfold items
  rw [OL_len, if_neg (by omega), if_neg (by omega), Int.toNat_natCast]
  have e : (OL B l2 owner (owner + 1)).getD owner [] = B.getD owner [] := by
    unfold OL
    rw [List.getD_eq_getElem?_getD, List.getElem?_map, List.getElem?_range (by omega)]
    show oth B l2 owner owner = _
    unfold oth
    rw [if_pos rfl]
  rw [e]
def DInv (w2 : World) (B l2 : List (List Int)) (owner : Nat) (pk : Value) (m : Nat) (v : Value) (wr : World) : Prop :=
  Below w2.heap.size w2 wr ∧ (∃ vs, wr.ownsRow w2.heap.size 38 1 v m vs ∧ Reps ((Kd.slice 5 (Kd.int .u8)).K w2) 1 (OL B l2 owner m) vs) ∧ m ≤ owner + 1 ∧ wr.heap[w2.heap.size + 1]? = some (.cells #[v, pk] 31 (0, 0))
theorem DInv_step {w2 wr w3 : World} {B l2 : List (List Int)} {owner : Nat} {pk : Value} {m : Nat} {v v1 y : Value} {vs : List Value} (h : DInv w2 B l2 owner pk m v wr)
    (ho : wr.ownsRow w2.heap.size 38 1 v m vs) (hrep : Reps ((Kd.slice 5 (Kd.int .u8)).K w2) 1 (OL B l2 owner m) vs) (hm : m ≤ owner) (hy : (Kd.slice 5 (Kd.int .u8)).K w2 (oth B l2 owner m) [y])
    (hown : w3.ownsRow w2.heap.size 38 1 v1 (vs.length + 1) (vs ++ [y])) (hb : Below w2.heap.size w2 w3) (hblk : w3.heap[w2.heap.size + 1]? = some (.cells #[v, pk] 31 (0, 0))) : DInv w2 B l2 owner pk (m + 1) v1 (w3.setCells (w2.heap.size + 1) 0 [v1]) := by
  have hl : vs.length = m := by have := ho.1; omega
  refine ⟨below_setCells (by omega) _ 0 _ hb, ⟨vs ++ [y], ?_, ?_⟩, by omega, ?_⟩
  · rw [hl] at hown
    exact own_setCells (own_ne hown hblk (by decide)) [v1] 0 _ hown
  · unfold OL
    rw [List.range_succ, List.map_append]
    exact hrep.snoc hy rfl
  · exact blk_setCells [v1] 0 _ w3 hblk
theorem DInv_alloc {w2 wr : World} {B l2 : List (List Int)} {owner : Nat} {pk : Value} {m : Nat} {v : Value} (h : DInv w2 B l2 owner pk m v wr) (o : Obj) : DInv w2 B l2 owner pk m v (wr.alloc o) := by
  obtain ⟨hb, ⟨vs, ho, hrep⟩, hm, hblk⟩ := h
  exact ⟨hb.alloc hb.size _, ⟨vs, ho.alloc _, hrep⟩, hm, (Below.heap_alloc _ _ _ (Array.getElem?_eq_some_iff.1 hblk).1).trans hblk⟩
theorem Kd_C_nil (w : World) (A : Option Addr) : Kd.C (Kd.int .u8) w A 0 [] := ⟨rfl, by omega, fun h => absurd h (by omega)⟩
theorem pcs_most (l : List Int) (reqs : Int) : ((pcs l reqs).length : Int) ≤ max 0 reqs := by
  unfold pcs; rw [List.length_map, List.length_range]; omega
theorem items_most (B : List (List Int)) (owner reqs : Int) : ((items B owner reqs).length : Int) ≤ max 0 reqs := by
  unfold items
  split
  · simp; omega
  · rw [List.length_map]; exact pcs_most _ _
set_option maxRecDepth 100000 in
set_option maxHeartbeats 4000000 in
theorem DecodeOwn_walk (A0_0 : Option Addr) (c0_0 : Nat) (l0_0 : List Int) (A0_1 : Option Addr) (c0_1 : Nat) (l0_1 : List S97) (A0_2 : Option Addr) (c0_2 : Nat) (l0_2 : List S87) (A0_3 : Option Addr) (c0_3 : Nat) (l0_3 : List S107) (A0_4 : Option Addr) (c0_4 : Nat) (l0_4 : List Int) (a0_5 a0_6 a0_7 : Int) (A1_0 : Option Addr) (c1_0 : Nat) (l1_0 : List (List Int)) (A1_1 : Option Addr) (c1_1 : Nat) (l1_1 : List Int) (A2 : Option Addr) (c2 : Nat) (l2 : List (List Int)) (a3 : Int) (W : World)
    (hr1_0 : Kd.C (Kd.slice 5 (Kd.int .u8)) W A1_0 l1_0.length l1_0) (hc1_0 : l1_0.length ≤ c1_0) (hr2 : Kd.C (Kd.slice 5 (Kd.int .u8)) W A2 l2.length l2) (hc2 : l2.length ≤ c2) (hw3 : (Lit.int .i64 a0_6).wf = true) (hg : Glob W) :
    Calls Tryd.prog 4 #[.agg #[.slice A0_0 l0_0.length c0_0, .slice A0_1 l0_1.length c0_1, .slice A0_2 l0_2.length c0_2, .slice A0_3 l0_3.length c0_3, .slice A0_4 l0_4.length c0_4, .int .i64 a0_5, .int .i64 a0_6, .int .i64 a0_7], .agg #[.slice A1_0 l1_0.length c1_0, .slice A1_1 l1_1.length c1_1], .slice A2 l2.length c2, .int .i64 a3] W fun e w' => e = .returned (.bool true) ∧ Below W.heap.size W w' := by
  have HR := Aside0.mk (And.intro hr1_0 (And.intro hc1_0 hg))
  have HO := Aside0.mk (And.intro hr2 (And.intro hc2 hw3))
  clear hr1_0 hc1_0 hg hr2 hc2 hw3
  go_enter Tryd.func4, Tryd.ntmps4
  go_upto_region 1 with fail
  have B0 : Aside0 (Below W.heap.size W ((W.alloc (.cells #[.slice A0_0 l0_0.length c0_0, .slice A0_1 l0_1.length c0_1, .slice A0_2 l0_2.length c0_2, .slice A0_3 l0_3.length c0_3, .slice A0_4 l0_4.length c0_4, .int .i64 a0_5, .int .i64 a0_6, .int .i64 a0_7] 28)).alloc (.cells #[.slice A1_0 l1_0.length c1_0, .slice A1_1 l1_1.length c1_1] 31))) := ⟨((Below.refl _ W).alloc (Nat.le_refl _) _).alloc (by simp) _⟩
  have E0 : Aside0 (((W.alloc (.cells #[.slice A0_0 l0_0.length c0_0, .slice A0_1 l0_1.length c0_1, .slice A0_2 l0_2.length c0_2, .slice A0_3 l0_3.length c0_3, .slice A0_4 l0_4.length c0_4, .int .i64 a0_5, .int .i64 a0_6, .int .i64 a0_7] 28)).alloc (.cells #[.slice A1_0 l1_0.length c1_0, .slice A1_1 l1_1.length c1_1] 31)).heap[W.heap.size]? = some (.cells #[.slice A0_0 l0_0.length c0_0, .slice A0_1 l0_1.length c0_1, .slice A0_2 l0_2.length c0_2, .slice A0_3 l0_3.length c0_3, .slice A0_4 l0_4.length c0_4, .int .i64 a0_5, .int .i64 a0_6, .int .i64 a0_7] 28 (0, 0))) := ⟨(Below.heap_alloc _ _ _ (by simp)).trans (World.alloc_heap_new W _)⟩
  have E1 : Aside0 (((W.alloc (.cells #[.slice A0_0 l0_0.length c0_0, .slice A0_1 l0_1.length c0_1, .slice A0_2 l0_2.length c0_2, .slice A0_3 l0_3.length c0_3, .slice A0_4 l0_4.length c0_4, .int .i64 a0_5, .int .i64 a0_6, .int .i64 a0_7] 28)).alloc (.cells #[.slice A1_0 l1_0.length c1_0, .slice A1_1 l1_1.length c1_1] 31)).heap[W.heap.size + 1]? = some (.cells #[.slice A1_0 l1_0.length c1_0, .slice A1_1 l1_1.length c1_1] 31 (0, 0))) := ⟨by have := World.alloc_heap_new (W.alloc (.cells #[.slice A0_0 l0_0.length c0_0, .slice A0_1 l0_1.length c0_1, .slice A0_2 l0_2.length c0_2, .slice A0_3 l0_3.length c0_3, .slice A0_4 l0_4.length c0_4, .int .i64 a0_5, .int .i64 a0_6, .int .i64 a0_7] 28)) (.cells #[.slice A1_0 l1_0.length c1_0, .slice A1_1 l1_1.length c1_1] 31); rwa [World.size_alloc] at this⟩
  generalize ((W.alloc (.cells #[.slice A0_0 l0_0.length c0_0, .slice A0_1 l0_1.length c0_1, .slice A0_2 l0_2.length c0_2, .slice A0_3 l0_3.length c0_3, .slice A0_4 l0_4.length c0_4, .int .i64 a0_5, .int .i64 a0_6, .int .i64 a0_7] 28)).alloc (.cells #[.slice A1_0 l1_0.length c1_0, .slice A1_1 l1_1.length c1_1] 31)) = W0 at B0 E0 E1 ⊢
  have x0 : W0.cell? ⟨W.heap.size + 1, 0, none⟩ = some (.slice A1_0 l1_0.length c1_0) := by simp [World.cell?, E1.out]
  have x1 : W0.cell? ⟨W.heap.size + 1, 1, none⟩ = some (.slice A1_1 l1_1.length c1_1) := by simp [World.cell?, E1.out]
  go_upto_region 2 with (first | (go_at_call 10; refine (cut_calls _ _ l1_0 _ _ _ W _ B0.out HR.out.1 HR.out.2.1).mono ?_; rintro e w1 ⟨A', c', vs, rfl, ho, hrep, hb⟩; have H1 := Aside0.mk (And.intro ho (And.intro hrep hb)); have F1 := Aside0.mk (blk_below H1.out.2.2 E1.out); clear ho hrep hb; have z0 : w1.cell? ⟨W.heap.size + 1, 0, none⟩ = some (.slice A1_0 l1_0.length c1_0) := (by simp [World.cell?, F1.out]); have z1 : w1.cell? ⟨W.heap.size + 1, 1, none⟩ = some (.slice A1_1 l1_1.length c1_1) := (by simp [World.cell?, F1.out]); have f0 : w1.frozen? ⟨W.heap.size + 1, 0, none⟩ = false := (by simp [World.frozen?, F1.out]); have f1 : w1.frozen? ⟨W.heap.size + 1, 1, none⟩ = false := (by simp [World.frozen?, F1.out])))
  clear z0 z1 f0 f1 x0 x1
  have F0 := Aside0.mk (blk_below H1.out.2.2 E0.out)
  have B1 : Aside0 (Below W.heap.size W w1) := ⟨B0.out.trans (H1.out.2.2.mono B0.out.size)⟩
  have K0 : Aside0 ((w1.setCells (W.heap.size + 1) 0 [.slice A' (cutB l1_0).length c', .slice A1_1 l1_1.length c1_1]).heap[W.heap.size]? = some (.cells #[.slice A0_0 l0_0.length c0_0, .slice A0_1 l0_1.length c0_1, .slice A0_2 l0_2.length c0_2, .slice A0_3 l0_3.length c0_3, .slice A0_4 l0_4.length c0_4, .int .i64 a0_5, .int .i64 a0_6, .int .i64 a0_7] 28 (0, 0))) := ⟨(far_setCells (by omega) _ _ _).trans F0.out⟩
  have K1 : Aside0 ((w1.setCells (W.heap.size + 1) 0 [.slice A' (cutB l1_0).length c', .slice A1_1 l1_1.length c1_1]).heap[W.heap.size + 1]? = some (.cells #[.slice A' (cutB l1_0).length c', .slice A1_1 l1_1.length c1_1] 31 (0, 0))) := ⟨blk_setCells _ 0 _ w1 F1.out⟩
  have B2 : Aside0 (Below W.heap.size W (w1.setCells (W.heap.size + 1) 0 [.slice A' (cutB l1_0).length c', .slice A1_1 l1_1.length c1_1])) := ⟨below_setCells (by omega) _ 0 _ B1.out⟩
  have R1 := own_setCells (own_ne H1.out.1 F1.out (by decide)) [.slice A' (cutB l1_0).length c', .slice A1_1 l1_1.length c1_1] 0 _ H1.out.1
  obtain ⟨A2, c2, ev, hc2, hC2⟩ := row_reads R1 H1.out.2.1 B2.out
  obtain ⟨rfl, rfl⟩ : A' = A2 ∧ c' = c2 := by simpa using ev
  have R2 := Aside0.mk (And.intro hc2 hC2)
  clear R1 ev hc2 hC2
  change Code.wp Tryd.prog _ _ _ (w1.setCells (W.heap.size + 1) 0 [.slice A' (cutB l1_0).length c', .slice A1_1 l1_1.length c1_1])
  clear H1 F1 F0 B1 E1 E0 B0
  generalize w1.setCells (W.heap.size + 1) 0 [.slice A' (cutB l1_0).length c', .slice A1_1 l1_1.length c1_1] = w2 at K0 K1 B2 R2 ⊢
  have HS : Aside0 (∀ x ∈ cutB l1_0, x.length ≤ 120) := ⟨cutB_short l1_0⟩
  obtain ⟨B, hB⟩ : ∃ B, cutB l1_0 = B := ⟨_, rfl⟩
  have HL20 : Aside0 (B.length ≤ 20) := ⟨by rw [← hB, cutB_len]; omega⟩
  rw [hB] at K1 R2 HS ⊢
  clear hB
  have HG2 : Aside0 (Glob w2) := ⟨HR.out.2.2.below B2.out⟩
  have x0 : w2.cell? ⟨W.heap.size + 1, 0, none⟩ = some (.slice A' B.length c') := by simp [World.cell?, K1.out]
  by_cases hn : a3 < 0
  · have d1 : decide (a3 < 0) = true := decide_eq_true hn
    go_wp2_with (first | (go_at_call 14; refine (alive_calls _ HG2.out).mono ?_; rintro e w7 ⟨rfl, hb⟩; have N7 := Aside0.mk hb; clear hb))
    go_ret
    exact ⟨rfl, B2.out.trans (N7.out.mono B2.out.size)⟩
  by_cases hn2 : a3 ≥ (B.length : Int)
  · have d1 : decide (a3 < 0) = false := decide_eq_false hn
    have d2 : decide (a3 ≥ (B.length : Int)) = true := decide_eq_true hn2
    have d3 : decide ((B.length : Int) ≤ a3) = true := decide_eq_true hn2
    go_wp2_with (first | (go_at_call 14; refine (alive_calls _ HG2.out).mono ?_; rintro e w7 ⟨rfl, hb⟩; have N7 := Aside0.mk hb; clear hb))
    go_ret
    exact ⟨rfl, B2.out.trans (N7.out.mono B2.out.size)⟩
  obtain ⟨owner, rfl⟩ := Int.eq_ofNat_of_zero_le (Int.not_lt.1 hn)
  have HN : Aside0 (owner < B.length) := ⟨by omega⟩
  have d1 : decide ((owner : Int) < 0) = false := decide_eq_false hn
  have d2 : decide ((owner : Int) ≥ (B.length : Int)) = false := decide_eq_false hn2
  have d3 : decide ((B.length : Int) ≤ (owner : Int)) = false := decide_eq_false hn2
  clear hn hn2
  have d4 : decide (B.length ≤ owner) = false := decide_eq_false (by have := HN.out; omega)
  go_upto_region 5 with fail
  have H0 : Aside0 (DInv w2 B l2 owner (.slice (some ⟨w2.heap.size, 0, none⟩) 1 1) 0 (.slice none 0 0) ((w2.alloc (.cells #[.int .i64 1] 3)).alloc (.cells #[.slice none 0 0, .slice (some ⟨w2.heap.size, 0, none⟩) 1 1] 31))) := ⟨⟨((Below.refl _ w2).alloc (Nat.le_refl _) _).alloc (by simp) _, ⟨[], World.ownsRow_nil _ _ _ _, Reps.none _ _⟩, by omega, by have := World.alloc_heap_new (w2.alloc (.cells #[.int .i64 1] 3)) (.cells #[.slice none 0 0, .slice (some ⟨w2.heap.size, 0, none⟩) 1 1] 31); rwa [World.size_alloc] at this⟩⟩
  clear x0
  generalize ((w2.alloc (.cells #[.int .i64 1] 3)).alloc (.cells #[.slice none 0 0, .slice (some ⟨w2.heap.size, 0, none⟩) 1 1] 31)) = w4 at H0 ⊢
  go_wp2
  go_loopw [10, 11] (fun i b wr => ∃ (m : Nat) (v : Value), i = .int .i64 (m : Int) ∧ Aside0 (DInv w2 B l2 owner (.slice (some ⟨w2.heap.size, 0, none⟩) 1 1) m v wr)) (fun i _ _ => owner + 1 - (intOf i).toNat)
  case atStart => exact ⟨0, _, rfl, H0⟩
  case round =>
    clear H0
    obtain ⟨m, v, rfl, hS⟩ := hrel
    obtain ⟨vs, hvs⟩ := hS.out.2.1
    have HV := Aside0.mk hvs
    clear hvs
    obtain ⟨A3, c3, rfl, hc3, right_⟩ := own_reads_of_le (d := Value.bool false) (enc := id) (n := m) (xs := vs) (by rw [show encs id vs = vs by simp [encs]]; exact HV.out.1)
    have xo : wr.cell? ⟨w2.heap.size + 1, 0, none⟩ = some (.slice A3 m c3) := by simp [World.cell?, hS.out.2.2.2]
    have xt : wr.cell? ⟨W.heap.size + 1, 0, none⟩ = some (.slice A' B.length c') := by simp [World.cell?, blk_below hS.out.1 K1.out]
    by_cases h1 : (m : Int) ≤ (owner : Int)
    · have e1 : decide ((m : Int) ≤ (owner : Int)) = true := decide_eq_true h1
      have e1' : decide (m ≤ owner) = true := decide_eq_true (by omega)
      have H1 := Aside0.mk h1
      clear h1
      by_cases h2 : (m : Int) < (l2.length : Int)
      · have e2 : decide ((m : Int) < (l2.length : Int)) = true := decide_eq_true h2
        have e2' : decide (m < l2.length) = true := decide_eq_true (by omega)
        obtain ⟨adO, AeO, ceO, eO, xO, hleO, hCO⟩ := el_at (Kd.C_below HO.out.1 B2.out) (m : Int) (by omega) h2
        subst eO
        rw [Int.toNat_natCast] at xO hleO hCO
        have xO' := pw_cell_below hS.out.1 xO
        have HP := Aside0.mk (And.intro hleO hCO)
        generalize hlO : l2.getD m [] = lO at xO xO' hleO hCO HP
        have HLO := Aside0.mk hlO
        have xO2 := pw_cell_below ((Below.refl wr.heap.size wr).alloc (Nat.le_refl _) (.cells #[] 5)) xO'
        clear xO hleO hCO hlO
        by_cases h3 : (lO.length : Int) ≤ 120
        · have e3 : decide ((lO.length : Int) ≤ 120) = true := decide_eq_true h3
          have e3' : decide (lO.length ≤ 120) = true := decide_eq_true (by omega)
          by_cases h4 : m = owner
          · skip
            subst h4
            have hmB : m < B.length := HN.out
            have hmB' : (m : Int) < (B.length : Int) := by omega
            have hmB2 : (0 : Int) ≤ (m : Int) := by omega
            obtain ⟨adB, AeB, ceB, eB, xB, hleB, hCB⟩ := el_at R2.out.2 (m : Int) (by omega) (by have := HN.out; omega)
            
            subst eB
            rw [Int.toNat_natCast] at xB hleB hCB
            have xB' := pw_cell_below hS.out.1 xB
            have HQ := Aside0.mk (And.intro hleB hCB)
            generalize hlB : B.getD m [] = lB at xB xB' hleB hCB HQ
            have HLB := Aside0.mk hlB
            have xB2 := pw_cell_below ((Below.refl wr.heap.size wr).alloc (Nat.le_refl _) (.cells #[] 5)) xB'
            have xt2 := pw_cell_below ((Below.refl wr.heap.size wr).alloc (Nat.le_refl _) (.cells #[] 5)) xt
            clear xB hleB hCB hlB
            go_upto_region 13 with fail
            have HD : Aside0 (DInv w2 B l2 m (.slice (some ⟨w2.heap.size, 0, none⟩) 1 1) m (.slice A3 m c3) (wr.alloc (.cells #[] 5)) ∧ (wr.alloc (.cells #[] 5)).ownsRow w2.heap.size 38 1 (.slice A3 m c3) vs.length vs) := ⟨DInv_alloc hS.out _, by rw [show vs.length = m by have := HV.out.1.1; omega]; exact HV.out.1.alloc _⟩
            have YB : Aside0 ((Kd.slice 5 (Kd.int .u8)).K w2 (oth B l2 m m) [Value.slice AeB lB.length ceB]) := ⟨by unfold oth; rw [if_pos rfl, HLB.out]; exact ⟨AeB, ceB, rfl, HQ.out.1, HQ.out.2⟩⟩
            clear xo xt
            generalize wr.alloc (.cells #[] 5) = wc at HD ⊢
            have xo : wc.cell? ⟨w2.heap.size + 1, 0, none⟩ = some (.slice A3 m c3) := by simp [World.cell?, HD.out.1.2.2.2]
            have hml : Aside0 ((vs.length + 1) * 24 ≤ 140737488355328) := ⟨by have := HV.out.1.1; have := H1.out; have := HN.out; have := HL20.out; omega⟩
            go_wp2_with (first | ((with_reducible refine gate_builtin (b := .append) rfl ?_); at_builtin;  refine print_append (w0 := w2) w2.heap.size rfl (.tmp 58) (.tmp 60) 29 38 (.slice none 0 0) 24 rfl Tryd.underlying29 info38 rfl (by decide) (.slice A3 m c3) vs (Value.slice AeB lB.length ceB) rfl rfl rfl HD.out.2 HD.out.1.1 HD.out.1.1.size hml.out ?_; intro v1 w3 hown hB3 hg3 hat; replace hown : w3.ownsRow w2.heap.size 38 1 v1 (vs.length + 1) (vs ++ [Value.slice AeB lB.length ceB]) := (by rw [List.length_append] at hown; exact hown); obtain ⟨A5, c5, rfl, _, _⟩ := own_reads_of_le (d := Value.bool false) (enc := id) (n := vs.length + 1) (xs := vs ++ [Value.slice AeB lB.length ceB]) (by rw [show encs id (vs ++ [Value.slice AeB lB.length ceB]) = vs ++ [Value.slice AeB lB.length ceB] by simp [encs]]; exact hown); have HX := Aside0.mk (And.intro hB3 hown); have HK := Aside0.mk ((hg3.block _ (Array.getElem?_eq_some_iff.1 HD.out.1.2.2.2).1 (own_ne HD.out.2 HD.out.1.2.2.2 (by decide))).trans HD.out.1.2.2.2); clear hown hB3 hg3 hat; have zo : w3.cell? ⟨w2.heap.size + 1, 0, none⟩ = some (.slice A3 m c3) := (by simp [World.cell?, HK.out]); have fo : w3.frozen? ⟨w2.heap.size + 1, 0, none⟩ = false := (by simp [World.frozen?, HK.out])))
            have hw2 : wrap64 ((m : Int) + 1) = (m : Int) + 1 := by have := H1.out; have := HN.out; have := HL20.out; unfold wrap64; omega
            have hh : m + 1 - ((m : Int) + 1).toNat < m + 1 - ((m : Int)).toNat := by have := H1.out; omega
            go_roundw
            case rel =>
              exact ⟨m + 1, _, by first | (rw [hw2]; push_cast; rfl) | (push_cast; rfl), ⟨DInv_step hS.out HV.out.1 HV.out.2 (by have := H1.out; omega) YB.out HX.out.2 HX.out.1 HK.out⟩⟩
            case measure =>
              first | exact hh | (simp only [hw2]; exact hh)
          · skip
            have e4 : decide ((m : Int) = (owner : Int)) = false := decide_eq_false (by omega)
            have e4' : decide (m = owner) = false := decide_eq_false h4
            have H4 := Aside0.mk h4
            go_upto_region 13 with fail
            have HD : Aside0 (DInv w2 B l2 owner (.slice (some ⟨w2.heap.size, 0, none⟩) 1 1) m (.slice A3 m c3) (wr.alloc (.cells #[] 5)) ∧ (wr.alloc (.cells #[] 5)).ownsRow w2.heap.size 38 1 (.slice A3 m c3) vs.length vs) := ⟨DInv_alloc hS.out _, by rw [show vs.length = m by have := HV.out.1.1; omega]; exact HV.out.1.alloc _⟩
            have YB : Aside0 ((Kd.slice 5 (Kd.int .u8)).K w2 (oth B l2 owner m) [Value.slice AeO lO.length ceO]) := ⟨by unfold oth; rw [if_neg H4.out, if_pos ⟨by omega, by rw [HLO.out]; omega⟩, HLO.out]; exact ⟨AeO, ceO, rfl, HP.out.1, HP.out.2⟩⟩
            clear xo xt
            generalize wr.alloc (.cells #[] 5) = wc at HD ⊢
            have xo : wc.cell? ⟨w2.heap.size + 1, 0, none⟩ = some (.slice A3 m c3) := by simp [World.cell?, HD.out.1.2.2.2]
            have hml : Aside0 ((vs.length + 1) * 24 ≤ 140737488355328) := ⟨by have := HV.out.1.1; have := H1.out; have := HN.out; have := HL20.out; omega⟩
            go_wp2_with (first | ((with_reducible refine gate_builtin (b := .append) rfl ?_); at_builtin;  refine print_append (w0 := w2) w2.heap.size rfl (.tmp 58) (.tmp 60) 29 38 (.slice none 0 0) 24 rfl Tryd.underlying29 info38 rfl (by decide) (.slice A3 m c3) vs (Value.slice AeO lO.length ceO) rfl rfl rfl HD.out.2 HD.out.1.1 HD.out.1.1.size hml.out ?_; intro v1 w3 hown hB3 hg3 hat; replace hown : w3.ownsRow w2.heap.size 38 1 v1 (vs.length + 1) (vs ++ [Value.slice AeO lO.length ceO]) := (by rw [List.length_append] at hown; exact hown); obtain ⟨A5, c5, rfl, _, _⟩ := own_reads_of_le (d := Value.bool false) (enc := id) (n := vs.length + 1) (xs := vs ++ [Value.slice AeO lO.length ceO]) (by rw [show encs id (vs ++ [Value.slice AeO lO.length ceO]) = vs ++ [Value.slice AeO lO.length ceO] by simp [encs]]; exact hown); have HX := Aside0.mk (And.intro hB3 hown); have HK := Aside0.mk ((hg3.block _ (Array.getElem?_eq_some_iff.1 HD.out.1.2.2.2).1 (own_ne HD.out.2 HD.out.1.2.2.2 (by decide))).trans HD.out.1.2.2.2); clear hown hB3 hg3 hat; have zo : w3.cell? ⟨w2.heap.size + 1, 0, none⟩ = some (.slice A3 m c3) := (by simp [World.cell?, HK.out]); have fo : w3.frozen? ⟨w2.heap.size + 1, 0, none⟩ = false := (by simp [World.frozen?, HK.out])))
            have hw2 : wrap64 ((m : Int) + 1) = (m : Int) + 1 := by have := H1.out; have := HN.out; have := HL20.out; unfold wrap64; omega
            have hh : owner + 1 - ((m : Int) + 1).toNat < owner + 1 - ((m : Int)).toNat := by have := H1.out; omega
            go_roundw
            case rel =>
              exact ⟨m + 1, _, by first | (rw [hw2]; push_cast; rfl) | (push_cast; rfl), ⟨DInv_step hS.out HV.out.1 HV.out.2 (by have := H1.out; omega) YB.out HX.out.2 HX.out.1 HK.out⟩⟩
            case measure =>
              first | exact hh | (simp only [hw2]; exact hh)
        · have e3 : decide ((lO.length : Int) ≤ 120) = false := decide_eq_false h3
          have e3' : decide (lO.length ≤ 120) = false := decide_eq_false (by omega)
          by_cases h4 : m = owner
          · skip
            subst h4
            have hmB : m < B.length := HN.out
            have hmB' : (m : Int) < (B.length : Int) := by omega
            have hmB2 : (0 : Int) ≤ (m : Int) := by omega
            obtain ⟨adB, AeB, ceB, eB, xB, hleB, hCB⟩ := el_at R2.out.2 (m : Int) (by omega) (by have := HN.out; omega)
            
            subst eB
            rw [Int.toNat_natCast] at xB hleB hCB
            have xB' := pw_cell_below hS.out.1 xB
            have HQ := Aside0.mk (And.intro hleB hCB)
            generalize hlB : B.getD m [] = lB at xB xB' hleB hCB HQ
            have HLB := Aside0.mk hlB
            have xB2 := pw_cell_below ((Below.refl wr.heap.size wr).alloc (Nat.le_refl _) (.cells #[] 5)) xB'
            have xt2 := pw_cell_below ((Below.refl wr.heap.size wr).alloc (Nat.le_refl _) (.cells #[] 5)) xt
            clear xB hleB hCB hlB
            go_upto_region 13 with fail
            have HD : Aside0 (DInv w2 B l2 m (.slice (some ⟨w2.heap.size, 0, none⟩) 1 1) m (.slice A3 m c3) (wr.alloc (.cells #[] 5)) ∧ (wr.alloc (.cells #[] 5)).ownsRow w2.heap.size 38 1 (.slice A3 m c3) vs.length vs) := ⟨DInv_alloc hS.out _, by rw [show vs.length = m by have := HV.out.1.1; omega]; exact HV.out.1.alloc _⟩
            have YB : Aside0 ((Kd.slice 5 (Kd.int .u8)).K w2 (oth B l2 m m) [Value.slice AeB lB.length ceB]) := ⟨by unfold oth; rw [if_pos rfl, HLB.out]; exact ⟨AeB, ceB, rfl, HQ.out.1, HQ.out.2⟩⟩
            clear xo xt
            generalize wr.alloc (.cells #[] 5) = wc at HD ⊢
            have xo : wc.cell? ⟨w2.heap.size + 1, 0, none⟩ = some (.slice A3 m c3) := by simp [World.cell?, HD.out.1.2.2.2]
            have hml : Aside0 ((vs.length + 1) * 24 ≤ 140737488355328) := ⟨by have := HV.out.1.1; have := H1.out; have := HN.out; have := HL20.out; omega⟩
            go_wp2_with (first | ((with_reducible refine gate_builtin (b := .append) rfl ?_); at_builtin;  refine print_append (w0 := w2) w2.heap.size rfl (.tmp 58) (.tmp 60) 29 38 (.slice none 0 0) 24 rfl Tryd.underlying29 info38 rfl (by decide) (.slice A3 m c3) vs (Value.slice AeB lB.length ceB) rfl rfl rfl HD.out.2 HD.out.1.1 HD.out.1.1.size hml.out ?_; intro v1 w3 hown hB3 hg3 hat; replace hown : w3.ownsRow w2.heap.size 38 1 v1 (vs.length + 1) (vs ++ [Value.slice AeB lB.length ceB]) := (by rw [List.length_append] at hown; exact hown); obtain ⟨A5, c5, rfl, _, _⟩ := own_reads_of_le (d := Value.bool false) (enc := id) (n := vs.length + 1) (xs := vs ++ [Value.slice AeB lB.length ceB]) (by rw [show encs id (vs ++ [Value.slice AeB lB.length ceB]) = vs ++ [Value.slice AeB lB.length ceB] by simp [encs]]; exact hown); have HX := Aside0.mk (And.intro hB3 hown); have HK := Aside0.mk ((hg3.block _ (Array.getElem?_eq_some_iff.1 HD.out.1.2.2.2).1 (own_ne HD.out.2 HD.out.1.2.2.2 (by decide))).trans HD.out.1.2.2.2); clear hown hB3 hg3 hat; have zo : w3.cell? ⟨w2.heap.size + 1, 0, none⟩ = some (.slice A3 m c3) := (by simp [World.cell?, HK.out]); have fo : w3.frozen? ⟨w2.heap.size + 1, 0, none⟩ = false := (by simp [World.frozen?, HK.out])))
            have hw2 : wrap64 ((m : Int) + 1) = (m : Int) + 1 := by have := H1.out; have := HN.out; have := HL20.out; unfold wrap64; omega
            have hh : m + 1 - ((m : Int) + 1).toNat < m + 1 - ((m : Int)).toNat := by have := H1.out; omega
            go_roundw
            case rel =>
              exact ⟨m + 1, _, by first | (rw [hw2]; push_cast; rfl) | (push_cast; rfl), ⟨DInv_step hS.out HV.out.1 HV.out.2 (by have := H1.out; omega) YB.out HX.out.2 HX.out.1 HK.out⟩⟩
            case measure =>
              first | exact hh | (simp only [hw2]; exact hh)
          · skip
            have e4 : decide ((m : Int) = (owner : Int)) = false := decide_eq_false (by omega)
            have e4' : decide (m = owner) = false := decide_eq_false h4
            have H4 := Aside0.mk h4
            go_upto_region 13 with fail
            have HD : Aside0 (DInv w2 B l2 owner (.slice (some ⟨w2.heap.size, 0, none⟩) 1 1) m (.slice A3 m c3) (wr.alloc (.cells #[] 5)) ∧ (wr.alloc (.cells #[] 5)).ownsRow w2.heap.size 38 1 (.slice A3 m c3) vs.length vs) := ⟨DInv_alloc hS.out _, by rw [show vs.length = m by have := HV.out.1.1; omega]; exact HV.out.1.alloc _⟩
            have YB : Aside0 ((Kd.slice 5 (Kd.int .u8)).K w2 (oth B l2 owner m) [Value.slice (some ⟨wr.heap.size, 0, none⟩) 0 0]) := ⟨by unfold oth; rw [if_neg H4.out, if_neg (fun hx => by rw [HLO.out] at hx; omega)]; exact ⟨_, 0, rfl, Nat.le_refl _, Kd_C_nil _ _⟩⟩
            clear xo xt
            generalize wr.alloc (.cells #[] 5) = wc at HD ⊢
            have xo : wc.cell? ⟨w2.heap.size + 1, 0, none⟩ = some (.slice A3 m c3) := by simp [World.cell?, HD.out.1.2.2.2]
            have hml : Aside0 ((vs.length + 1) * 24 ≤ 140737488355328) := ⟨by have := HV.out.1.1; have := H1.out; have := HN.out; have := HL20.out; omega⟩
            go_wp2_with (first | ((with_reducible refine gate_builtin (b := .append) rfl ?_); at_builtin;  refine print_append (w0 := w2) w2.heap.size rfl (.tmp 58) (.tmp 60) 29 38 (.slice none 0 0) 24 rfl Tryd.underlying29 info38 rfl (by decide) (.slice A3 m c3) vs (Value.slice (some ⟨wr.heap.size, 0, none⟩) 0 0) rfl rfl rfl HD.out.2 HD.out.1.1 HD.out.1.1.size hml.out ?_; intro v1 w3 hown hB3 hg3 hat; replace hown : w3.ownsRow w2.heap.size 38 1 v1 (vs.length + 1) (vs ++ [Value.slice (some ⟨wr.heap.size, 0, none⟩) 0 0]) := (by rw [List.length_append] at hown; exact hown); obtain ⟨A5, c5, rfl, _, _⟩ := own_reads_of_le (d := Value.bool false) (enc := id) (n := vs.length + 1) (xs := vs ++ [Value.slice (some ⟨wr.heap.size, 0, none⟩) 0 0]) (by rw [show encs id (vs ++ [Value.slice (some ⟨wr.heap.size, 0, none⟩) 0 0]) = vs ++ [Value.slice (some ⟨wr.heap.size, 0, none⟩) 0 0] by simp [encs]]; exact hown); have HX := Aside0.mk (And.intro hB3 hown); have HK := Aside0.mk ((hg3.block _ (Array.getElem?_eq_some_iff.1 HD.out.1.2.2.2).1 (own_ne HD.out.2 HD.out.1.2.2.2 (by decide))).trans HD.out.1.2.2.2); clear hown hB3 hg3 hat; have zo : w3.cell? ⟨w2.heap.size + 1, 0, none⟩ = some (.slice A3 m c3) := (by simp [World.cell?, HK.out]); have fo : w3.frozen? ⟨w2.heap.size + 1, 0, none⟩ = false := (by simp [World.frozen?, HK.out])))
            have hw2 : wrap64 ((m : Int) + 1) = (m : Int) + 1 := by have := H1.out; have := HN.out; have := HL20.out; unfold wrap64; omega
            have hh : owner + 1 - ((m : Int) + 1).toNat < owner + 1 - ((m : Int)).toNat := by have := H1.out; omega
            go_roundw
            case rel =>
              exact ⟨m + 1, _, by first | (rw [hw2]; push_cast; rfl) | (push_cast; rfl), ⟨DInv_step hS.out HV.out.1 HV.out.2 (by have := H1.out; omega) YB.out HX.out.2 HX.out.1 HK.out⟩⟩
            case measure =>
              first | exact hh | (simp only [hw2]; exact hh)
      · have e2 : decide ((m : Int) < (l2.length : Int)) = false := decide_eq_false h2
        have e2' : decide (m < l2.length) = false := decide_eq_false (by omega)
        by_cases h4 : m = owner
        · skip
          subst h4
          have hmB : m < B.length := HN.out
          have hmB' : (m : Int) < (B.length : Int) := by omega
          have hmB2 : (0 : Int) ≤ (m : Int) := by omega
          obtain ⟨adB, AeB, ceB, eB, xB, hleB, hCB⟩ := el_at R2.out.2 (m : Int) (by omega) (by have := HN.out; omega)
          
          subst eB
          rw [Int.toNat_natCast] at xB hleB hCB
          have xB' := pw_cell_below hS.out.1 xB
          have HQ := Aside0.mk (And.intro hleB hCB)
          generalize hlB : B.getD m [] = lB at xB xB' hleB hCB HQ
          have HLB := Aside0.mk hlB
          have xB2 := pw_cell_below ((Below.refl wr.heap.size wr).alloc (Nat.le_refl _) (.cells #[] 5)) xB'
          have xt2 := pw_cell_below ((Below.refl wr.heap.size wr).alloc (Nat.le_refl _) (.cells #[] 5)) xt
          clear xB hleB hCB hlB
          go_upto_region 13 with fail
          have HD : Aside0 (DInv w2 B l2 m (.slice (some ⟨w2.heap.size, 0, none⟩) 1 1) m (.slice A3 m c3) (wr.alloc (.cells #[] 5)) ∧ (wr.alloc (.cells #[] 5)).ownsRow w2.heap.size 38 1 (.slice A3 m c3) vs.length vs) := ⟨DInv_alloc hS.out _, by rw [show vs.length = m by have := HV.out.1.1; omega]; exact HV.out.1.alloc _⟩
          have YB : Aside0 ((Kd.slice 5 (Kd.int .u8)).K w2 (oth B l2 m m) [Value.slice AeB lB.length ceB]) := ⟨by unfold oth; rw [if_pos rfl, HLB.out]; exact ⟨AeB, ceB, rfl, HQ.out.1, HQ.out.2⟩⟩
          clear xo xt
          generalize wr.alloc (.cells #[] 5) = wc at HD ⊢
          have xo : wc.cell? ⟨w2.heap.size + 1, 0, none⟩ = some (.slice A3 m c3) := by simp [World.cell?, HD.out.1.2.2.2]
          have hml : Aside0 ((vs.length + 1) * 24 ≤ 140737488355328) := ⟨by have := HV.out.1.1; have := H1.out; have := HN.out; have := HL20.out; omega⟩
          go_wp2_with (first | ((with_reducible refine gate_builtin (b := .append) rfl ?_); at_builtin;  refine print_append (w0 := w2) w2.heap.size rfl (.tmp 58) (.tmp 60) 29 38 (.slice none 0 0) 24 rfl Tryd.underlying29 info38 rfl (by decide) (.slice A3 m c3) vs (Value.slice AeB lB.length ceB) rfl rfl rfl HD.out.2 HD.out.1.1 HD.out.1.1.size hml.out ?_; intro v1 w3 hown hB3 hg3 hat; replace hown : w3.ownsRow w2.heap.size 38 1 v1 (vs.length + 1) (vs ++ [Value.slice AeB lB.length ceB]) := (by rw [List.length_append] at hown; exact hown); obtain ⟨A5, c5, rfl, _, _⟩ := own_reads_of_le (d := Value.bool false) (enc := id) (n := vs.length + 1) (xs := vs ++ [Value.slice AeB lB.length ceB]) (by rw [show encs id (vs ++ [Value.slice AeB lB.length ceB]) = vs ++ [Value.slice AeB lB.length ceB] by simp [encs]]; exact hown); have HX := Aside0.mk (And.intro hB3 hown); have HK := Aside0.mk ((hg3.block _ (Array.getElem?_eq_some_iff.1 HD.out.1.2.2.2).1 (own_ne HD.out.2 HD.out.1.2.2.2 (by decide))).trans HD.out.1.2.2.2); clear hown hB3 hg3 hat; have zo : w3.cell? ⟨w2.heap.size + 1, 0, none⟩ = some (.slice A3 m c3) := (by simp [World.cell?, HK.out]); have fo : w3.frozen? ⟨w2.heap.size + 1, 0, none⟩ = false := (by simp [World.frozen?, HK.out])))
          have hw2 : wrap64 ((m : Int) + 1) = (m : Int) + 1 := by have := H1.out; have := HN.out; have := HL20.out; unfold wrap64; omega
          have hh : m + 1 - ((m : Int) + 1).toNat < m + 1 - ((m : Int)).toNat := by have := H1.out; omega
          go_roundw
          case rel =>
            exact ⟨m + 1, _, by first | (rw [hw2]; push_cast; rfl) | (push_cast; rfl), ⟨DInv_step hS.out HV.out.1 HV.out.2 (by have := H1.out; omega) YB.out HX.out.2 HX.out.1 HK.out⟩⟩
          case measure =>
            first | exact hh | (simp only [hw2]; exact hh)
        · skip
          have e4 : decide ((m : Int) = (owner : Int)) = false := decide_eq_false (by omega)
          have e4' : decide (m = owner) = false := decide_eq_false h4
          have H4 := Aside0.mk h4
          go_upto_region 13 with fail
          have HD : Aside0 (DInv w2 B l2 owner (.slice (some ⟨w2.heap.size, 0, none⟩) 1 1) m (.slice A3 m c3) (wr.alloc (.cells #[] 5)) ∧ (wr.alloc (.cells #[] 5)).ownsRow w2.heap.size 38 1 (.slice A3 m c3) vs.length vs) := ⟨DInv_alloc hS.out _, by rw [show vs.length = m by have := HV.out.1.1; omega]; exact HV.out.1.alloc _⟩
          have YB : Aside0 ((Kd.slice 5 (Kd.int .u8)).K w2 (oth B l2 owner m) [Value.slice (some ⟨wr.heap.size, 0, none⟩) 0 0]) := ⟨by unfold oth; rw [if_neg H4.out, if_neg (fun hx => by omega)]; exact ⟨_, 0, rfl, Nat.le_refl _, Kd_C_nil _ _⟩⟩
          clear xo xt
          generalize wr.alloc (.cells #[] 5) = wc at HD ⊢
          have xo : wc.cell? ⟨w2.heap.size + 1, 0, none⟩ = some (.slice A3 m c3) := by simp [World.cell?, HD.out.1.2.2.2]
          have hml : Aside0 ((vs.length + 1) * 24 ≤ 140737488355328) := ⟨by have := HV.out.1.1; have := H1.out; have := HN.out; have := HL20.out; omega⟩
          go_wp2_with (first | ((with_reducible refine gate_builtin (b := .append) rfl ?_); at_builtin;  refine print_append (w0 := w2) w2.heap.size rfl (.tmp 58) (.tmp 60) 29 38 (.slice none 0 0) 24 rfl Tryd.underlying29 info38 rfl (by decide) (.slice A3 m c3) vs (Value.slice (some ⟨wr.heap.size, 0, none⟩) 0 0) rfl rfl rfl HD.out.2 HD.out.1.1 HD.out.1.1.size hml.out ?_; intro v1 w3 hown hB3 hg3 hat; replace hown : w3.ownsRow w2.heap.size 38 1 v1 (vs.length + 1) (vs ++ [Value.slice (some ⟨wr.heap.size, 0, none⟩) 0 0]) := (by rw [List.length_append] at hown; exact hown); obtain ⟨A5, c5, rfl, _, _⟩ := own_reads_of_le (d := Value.bool false) (enc := id) (n := vs.length + 1) (xs := vs ++ [Value.slice (some ⟨wr.heap.size, 0, none⟩) 0 0]) (by rw [show encs id (vs ++ [Value.slice (some ⟨wr.heap.size, 0, none⟩) 0 0]) = vs ++ [Value.slice (some ⟨wr.heap.size, 0, none⟩) 0 0] by simp [encs]]; exact hown); have HX := Aside0.mk (And.intro hB3 hown); have HK := Aside0.mk ((hg3.block _ (Array.getElem?_eq_some_iff.1 HD.out.1.2.2.2).1 (own_ne HD.out.2 HD.out.1.2.2.2 (by decide))).trans HD.out.1.2.2.2); clear hown hB3 hg3 hat; have zo : w3.cell? ⟨w2.heap.size + 1, 0, none⟩ = some (.slice A3 m c3) := (by simp [World.cell?, HK.out]); have fo : w3.frozen? ⟨w2.heap.size + 1, 0, none⟩ = false := (by simp [World.frozen?, HK.out])))
          have hw2 : wrap64 ((m : Int) + 1) = (m : Int) + 1 := by have := H1.out; have := HN.out; have := HL20.out; unfold wrap64; omega
          have hh : owner + 1 - ((m : Int) + 1).toNat < owner + 1 - ((m : Int)).toNat := by have := H1.out; omega
          go_roundw
          case rel =>
            exact ⟨m + 1, _, by first | (rw [hw2]; push_cast; rfl) | (push_cast; rfl), ⟨DInv_step hS.out HV.out.1 HV.out.2 (by have := H1.out; omega) YB.out HX.out.2 HX.out.1 HK.out⟩⟩
          case measure =>
            first | exact hh | (simp only [hw2]; exact hh)
    · have e1 : decide ((m : Int) ≤ (owner : Int)) = false := decide_eq_false h1
      have e1' : decide (m ≤ owner) = false := decide_eq_false (by omega)
      have HM : Aside0 (m = owner + 1) := ⟨by have := hS.out.2.2.1; omega⟩
      obtain rfl : m = owner + 1 := HM.out
      obtain ⟨A4, c4, ev, hc4, hC4⟩ := row_reads (w' := wr) (v := .slice A3 (owner + 1) c3) (B := OL B l2 owner (owner + 1)) (by rw [OL_len]; exact HV.out.1) HV.out.2 hS.out.1
      have ev' : Value.slice A3 (owner + 1) c3 = Value.slice A4 (owner + 1) c4 := by rw [ev, OL_len]
      injection ev' with ea em ec
      subst ea ec
      have H4 := Aside0.mk (And.intro hc4 hC4)
      have G0 := Aside0.mk (blk_below hS.out.1 K0.out)
      have G1 := Aside0.mk (blk_below hS.out.1 K1.out)
      have G2 := Aside0.mk hS.out.2.2.2
      have GB : Aside0 (Below w2.heap.size w2 wr) := ⟨hS.out.1⟩
      have HL : Aside0 (∀ x ∈ B, x.length ≤ 1000) := ⟨fun x hx => Nat.le_trans (HS.out x hx) (by omega)⟩
      have HI : Aside0 ((items B (owner : Int) a0_6).length ≤ 1000 ∧ ((items B (owner : Int) a0_6).length : Int) ≤ max 0 a0_6 ∧ items (OL B l2 owner (owner + 1)) (owner : Int) a0_6 = items B (owner : Int) a0_6) := ⟨items_short HL.out _ _, items_most _ _ _, OL_items _ _ _ _ HN.out⟩
      have HZ : Aside0 (∀ x ∈ OL B l2 owner (owner + 1), x.length ≤ 1000) := ⟨OL_short HS.out _ _⟩
      clear ev hc4 hC4 right_ xo xt h1 hS HV K0 K1 HM hc3 d1 d2 d3 d4
      obtain ⟨its, hits⟩ : ∃ x, items B (owner : Int) a0_6 = x := ⟨_, rfl⟩
      have HIT := Aside0.mk hits
      have hd0 : (its.length : Int) ≤ max 0 a0_6 := by rw [← hits]; exact HI.out.2.1
      have HD0 := Aside0.mk hd0
      clear hd0
      clear hits
      go_upto_region 15 with (first | ((with_reducible refine gate_ (.load 28 (.tmp 4)) rfl ?_); refine load_blk rfl 28 (.tmp 4) rfl W.heap.size _ 28 rfl _ G0.out Tryd.underlying28 rfl (by kernel_rfl) ?_) | ((with_reducible refine gate_ (.load 31 (.tmp 5)) rfl ?_); refine load_blk rfl 31 (.tmp 5) rfl (W.heap.size + 1) _ 31 rfl _ G1.out Tryd.underlying31 rfl (by kernel_rfl) ?_) | (go_at_call 12; refine (Tick_calls _ _ _ _ _ _ _ _ (owner : Int) a0_6 A' c' B _ R2.out.1 (Kd.C_below R2.out.2 GB.out) HL.out (HG2.out.below GB.out)).mono ?_; rintro e w5 ⟨A5, c5, rfl, hc5, hC5, hb5⟩; rw [HIT.out] at hc5 hC5 ⊢; have H5 := Aside0.mk (And.intro hc5 hC5); have N5 := Aside0.mk hb5; clear hc5 hC5 hb5))
      by_cases hq : 0 < a0_6
      · have hmx : max 0 a0_6 = a0_6 := Int.max_eq_right (by omega)
        have hd1 : (its.length : Int) ≤ max 0 a0_6 := HD0.out
        rw [hmx] at hd1
        clear hmx
        have z6 : w5.cell? ⟨W.heap.size, 6, none⟩ = some (.int .i64 a0_6) := by simp [World.cell?, blk_below N5.out G0.out]
        go_wp2_with (first | ((with_reducible refine gate_ (.load 28 (.tmp 4)) rfl ?_); refine load_blk rfl 28 (.tmp 4) rfl W.heap.size _ 28 rfl _ (blk_below N5.out G0.out) Tryd.underlying28 rfl (by kernel_rfl) ?_) | ((with_reducible refine gate_ (.load 31 (.tmp 9)) rfl ?_); refine load_blk rfl 31 (.tmp 9) rfl (w2.heap.size + 1) _ 31 rfl _ (blk_below N5.out G2.out) Tryd.underlying31 rfl (by kernel_rfl) ?_) | (go_at_call 12; have TC := Tick_calls (.slice A0_0 l0_0.length c0_0) (.slice A0_1 l0_1.length c0_1) (.slice A0_2 l0_2.length c0_2) (.slice A0_3 l0_3.length c0_3) (.slice A0_4 l0_4.length c0_4) (.int .i64 a0_5) (.int .i64 a0_7) (Value.slice (some ⟨w2.heap.size, 0, none⟩) 1 1) (owner : Int) a0_6 A3 c3 (OL B l2 owner (owner + 1)) w5 H4.out.1 (Kd.C_below H4.out.2 N5.out) HZ.out (HG2.out.below (GB.out.trans (N5.out.mono GB.out.size))); rw [OL_len] at TC; refine TC.mono ?_; clear TC; rintro e w6 ⟨A6, c6, rfl, hc6, hC6, hb6⟩; rw [HI.out.2.2, HIT.out] at hc6 hC6 ⊢; have H6 := Aside0.mk (And.intro hc6 hC6); have N6 := Aside0.mk hb6; clear hc6 hC6 hb6) | (go_at_call 11; refine (rampartref21_Same.calls 1001 _ _ _ _ _ _ true _ (Kd.C_below H5.out.2 N6.out) H5.out.1 H6.out.2 H6.out.1 (same_self _ (by rw [← HIT.out]; exact HI.out.1))).mono ?_; rintro e w7 ⟨rfl, hb⟩; have N7 := Aside0.mk (Drawn0.below hb); clear hb; have z7 : w7.cell? ⟨W.heap.size, 6, none⟩ = some (.int .i64 a0_6) := (pw_cell_below N7.out (pw_cell_below N6.out z6))) | (go_at_call 14; refine (alive_calls _ (HG2.out.below (GB.out.trans ((N5.out.trans ((N6.out.trans (N7.out.mono N6.out.size)).mono N5.out.size)).mono GB.out.size)))).mono ?_; rintro e w8 ⟨rfl, hb⟩; have N8 := Aside0.mk hb; clear hb))
        all_goals first | (go_ret; exact ⟨rfl, B2.out.trans ((GB.out.trans ((N5.out.trans ((N6.out.trans ((N7.out.trans (N8.out.mono N7.out.size)).mono N6.out.size)).mono N5.out.size)).mono GB.out.size)).mono B2.out.size)⟩) | (exfalso; omega) | (exfalso; rename_i hne; exact hne (List.length_eq_zero_iff.1 (by omega)))
      · have hmx : max 0 a0_6 = 0 := Int.max_eq_left (by omega)
        have hd1 : (its.length : Int) ≤ max 0 a0_6 := HD0.out
        rw [hmx] at hd1
        clear hmx
        have z6 : w5.cell? ⟨W.heap.size, 6, none⟩ = some (.int .i64 a0_6) := by simp [World.cell?, blk_below N5.out G0.out]
        go_wp2_with (first | ((with_reducible refine gate_ (.load 28 (.tmp 4)) rfl ?_); refine load_blk rfl 28 (.tmp 4) rfl W.heap.size _ 28 rfl _ (blk_below N5.out G0.out) Tryd.underlying28 rfl (by kernel_rfl) ?_) | ((with_reducible refine gate_ (.load 31 (.tmp 9)) rfl ?_); refine load_blk rfl 31 (.tmp 9) rfl (w2.heap.size + 1) _ 31 rfl _ (blk_below N5.out G2.out) Tryd.underlying31 rfl (by kernel_rfl) ?_) | (go_at_call 12; have TC := Tick_calls (.slice A0_0 l0_0.length c0_0) (.slice A0_1 l0_1.length c0_1) (.slice A0_2 l0_2.length c0_2) (.slice A0_3 l0_3.length c0_3) (.slice A0_4 l0_4.length c0_4) (.int .i64 a0_5) (.int .i64 a0_7) (Value.slice (some ⟨w2.heap.size, 0, none⟩) 1 1) (owner : Int) a0_6 A3 c3 (OL B l2 owner (owner + 1)) w5 H4.out.1 (Kd.C_below H4.out.2 N5.out) HZ.out (HG2.out.below (GB.out.trans (N5.out.mono GB.out.size))); rw [OL_len] at TC; refine TC.mono ?_; clear TC; rintro e w6 ⟨A6, c6, rfl, hc6, hC6, hb6⟩; rw [HI.out.2.2, HIT.out] at hc6 hC6 ⊢; have H6 := Aside0.mk (And.intro hc6 hC6); have N6 := Aside0.mk hb6; clear hc6 hC6 hb6) | (go_at_call 11; refine (rampartref21_Same.calls 1001 _ _ _ _ _ _ true _ (Kd.C_below H5.out.2 N6.out) H5.out.1 H6.out.2 H6.out.1 (same_self _ (by rw [← HIT.out]; exact HI.out.1))).mono ?_; rintro e w7 ⟨rfl, hb⟩; have N7 := Aside0.mk (Drawn0.below hb); clear hb; have z7 : w7.cell? ⟨W.heap.size, 6, none⟩ = some (.int .i64 a0_6) := (pw_cell_below N7.out (pw_cell_below N6.out z6))) | (go_at_call 14; refine (alive_calls _ (HG2.out.below (GB.out.trans ((N5.out.trans ((N6.out.trans (N7.out.mono N6.out.size)).mono N5.out.size)).mono GB.out.size)))).mono ?_; rintro e w8 ⟨rfl, hb⟩; have N8 := Aside0.mk hb; clear hb))
        all_goals first | (go_ret; exact ⟨rfl, B2.out.trans ((GB.out.trans ((N5.out.trans ((N6.out.trans ((N7.out.trans (N8.out.mono N7.out.size)).mono N6.out.size)).mono N5.out.size)).mono GB.out.size)).mono B2.out.size)⟩) | (exfalso; omega) | (exfalso; rename_i hne; exact hne (List.length_eq_zero_iff.1 (by omega)))
theorem DecodeOwn_hand (A0_0 : Option Addr) (c0_0 : Nat) (l0_0 : List Int) (A0_1 : Option Addr) (c0_1 : Nat) (l0_1 : List S97) (A0_2 : Option Addr) (c0_2 : Nat) (l0_2 : List S87) (A0_3 : Option Addr) (c0_3 : Nat) (l0_3 : List S107) (A0_4 : Option Addr) (c0_4 : Nat) (l0_4 : List Int) (a0_5 a0_6 a0_7 : Int) (A1_0 : Option Addr) (c1_0 : Nat) (l1_0 : List (List Int)) (A1_1 : Option Addr) (c1_1 : Nat) (l1_1 : List Int) (A2 : Option Addr) (c2 : Nat) (l2 : List (List Int)) (a3 : Int) (W : World)
    (hr0_0 : Kd.C (Kd.int .u64) W A0_0 l0_0.length l0_0) (hc0_0 : l0_0.length ≤ c0_0) (hr0_1 : Kd.C k97 W A0_1 l0_1.length l0_1) (hc0_1 : l0_1.length ≤ c0_1) (hr0_2 : Kd.C k87 W A0_2 l0_2.length l0_2) (hc0_2 : l0_2.length ≤ c0_2) (hr0_3 : Kd.C k107 W A0_3 l0_3.length l0_3) (hc0_3 : l0_3.length ≤ c0_3) (hr0_4 : Kd.C (Kd.int .i64) W A0_4 l0_4.length l0_4) (hc0_4 : l0_4.length ≤ c0_4) (hr1_0 : Kd.C (Kd.slice 5 (Kd.int .u8)) W A1_0 l1_0.length l1_0) (hc1_0 : l1_0.length ≤ c1_0) (hr1_1 : Kd.C (Kd.int .i64) W A1_1 l1_1.length l1_1) (hc1_1 : l1_1.length ≤ c1_1) (hr2 : Kd.C (Kd.slice 5 (Kd.int .u8)) W A2 l2.length l2) (hc2 : l2.length ≤ c2)
    {P0 P1 P2 P3 P4 P5 P6 P7 P8 : Prop} (h0 : P0 ∧ P1 ∧ P2 ∧ P3 ∧ P4 ∧ P5 ∧ (Lit.int .i64 a0_6).wf = true ∧ P6) (_h1 : P7) (_h2 : P8) {P9 : Prop} (_h3 : P9) (hg : Glob W) :
    Calls Tryd.prog 4 #[.agg #[.slice A0_0 l0_0.length c0_0, .slice A0_1 l0_1.length c0_1, .slice A0_2 l0_2.length c0_2, .slice A0_3 l0_3.length c0_3, .slice A0_4 l0_4.length c0_4, .int .i64 a0_5, .int .i64 a0_6, .int .i64 a0_7], .agg #[.slice A1_0 l1_0.length c1_0, .slice A1_1 l1_1.length c1_1], .slice A2 l2.length c2, .int .i64 a3] W fun e w' => e = .returned (.bool true) ∧ Below W.heap.size W w' :=
  DecodeOwn_walk A0_0 c0_0 l0_0 A0_1 c0_1 l0_1 A0_2 c0_2 l0_2 A0_3 c0_3 l0_3 A0_4 c0_4 l0_4 a0_5 a0_6 a0_7 A1_0 c1_0 l1_0 A1_1 c1_1 l1_1 A2 c2 l2 a3 W hr1_0 hc1_0 hr2 hc2 h0.2.2.2.2.2.2.1 hg
end Go.Proofs.YtoliipbmcekciaaDoor.QDc
