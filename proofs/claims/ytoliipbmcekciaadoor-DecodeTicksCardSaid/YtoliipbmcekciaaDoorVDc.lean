/- Decode: the law DecodeTicks walked. -/
import Derived.Test.YtoliipbmcekciaaDoorADc
import Derived.Test.YtoliipbmcekciaaDoorKDc
namespace Go.Proofs.YtoliipbmcekciaaDoor.QDc
open Go.RowKit Go.Shelf Go.Proofs.YtoliipbmcekciaaDoorW.PrintWords Go.Proofs.YtoliipbmcekciaaDoorW.PrintLast Go.Proofs.YtoliipbmcekciaaDoorW.PrintMore
set_option linter.unusedVariables false
set_option linter.unusedSimpArgs false
theorem blk_below {w w' : World} {b : Nat} {o : Obj} (h : Below w.heap.size w w') (hb : w.heap[b]? = some o) : w'.heap[b]? = some o := obj_below h hb
theorem cutB_short (B : List (List Int)) : ∀ x ∈ cutB B, x.length ≤ 120 := by
  intro x hx
  unfold cutB at hx
  obtain ⟨y, _, rfl⟩ := List.mem_map.1 hx
  rw [List.length_take]
  omega
theorem cutB_byte {B : List (List Int)} (h : ∀ x ∈ B, ∀ y ∈ x, Byte y) : ∀ x ∈ cutB B, ∀ y ∈ x, Byte y := by
  intro x hx y hy
  unfold cutB at hx
  obtain ⟨z, hz, rfl⟩ := List.mem_map.1 hx
  exact h z (List.mem_of_mem_take hz) y (List.mem_of_mem_take hy)
theorem same_self_l0 (l : List S75) (hn : l.length ≤ 1000) : ∀ (k m : Nat), l.length - m < k → m ≤ l.length → rampartref21_Same.l0 k l l m = some true
  | 0, m, h, _ => absurd h (by omega)
  | k + 1, m, h, hm => by
    unfold rampartref21_Same.l0
    by_cases h1 : m < l.length
    · rw [if_pos (by omega), if_pos (by omega), if_pos (by omega), if_neg (by simp), show wrap64 ((m : Int) + 1) = ((m + 1 : Nat) : Int) by unfold wrap64; omega]
      exact same_self_l0 l hn k (m + 1) (by omega) (by omega)
    · rw [if_neg (by omega)]
theorem same_self (l : List S75) (hn : l.length ≤ 1000) : rampartref21_Same.f 1001 l l = some true := by
  unfold rampartref21_Same.f
  rw [if_pos rfl]
  exact same_self_l0 l hn 1001 0 (by omega) (by omega)
set_option maxRecDepth 100000 in
set_option maxHeartbeats 2000000 in
theorem DecodeTicks_walk (A0_0 : Option Addr) (c0_0 : Nat) (l0_0 : List Int) (A0_1 : Option Addr) (c0_1 : Nat) (l0_1 : List S97) (A0_2 : Option Addr) (c0_2 : Nat) (l0_2 : List S87) (A0_3 : Option Addr) (c0_3 : Nat) (l0_3 : List S107) (A0_4 : Option Addr) (c0_4 : Nat) (l0_4 : List Int) (a0_5 a0_6 a0_7 : Int) (A1_0 : Option Addr) (c1_0 : Nat) (l1_0 : List (List Int)) (A1_1 : Option Addr) (c1_1 : Nat) (l1_1 : List Int) (a2 : Int) (W : World)
    (hr0_0 : Kd.C (Kd.int .u64) W A0_0 l0_0.length l0_0) (hc0_0 : l0_0.length ≤ c0_0) (hr0_1 : Kd.C k97 W A0_1 l0_1.length l0_1) (hc0_1 : l0_1.length ≤ c0_1) (hr0_2 : Kd.C k87 W A0_2 l0_2.length l0_2) (hc0_2 : l0_2.length ≤ c0_2) (hr0_3 : Kd.C k107 W A0_3 l0_3.length l0_3) (hc0_3 : l0_3.length ≤ c0_3) (hr0_4 : Kd.C (Kd.int .i64) W A0_4 l0_4.length l0_4) (hc0_4 : l0_4.length ≤ c0_4) (hr1_0 : Kd.C (Kd.slice 5 (Kd.int .u8)) W A1_0 l1_0.length l1_0) (hc1_0 : l1_0.length ≤ c1_0) (hr1_1 : Kd.C (Kd.int .i64) W A1_1 l1_1.length l1_1) (hc1_1 : l1_1.length ≤ c1_1)
    (hbyte : ∀ x ∈ l1_0, ∀ y ∈ x, Byte y) (hg : Glob W) :
    Calls Tryd.prog 3 #[.agg #[.slice A0_0 l0_0.length c0_0, .slice A0_1 l0_1.length c0_1, .slice A0_2 l0_2.length c0_2, .slice A0_3 l0_3.length c0_3, .slice A0_4 l0_4.length c0_4, .int .i64 a0_5, .int .i64 a0_6, .int .i64 a0_7], .agg #[.slice A1_0 l1_0.length c1_0, .slice A1_1 l1_1.length c1_1], .int .i64 a2] W fun e w' => e = .returned (.bool true) ∧ Below W.heap.size W w' := by
  have HR := Aside0.mk (And.intro hr1_0 (And.intro hc1_0 (And.intro hbyte hg)))
  have H00 := Aside0.mk (And.intro hr0_0 hc0_0)
  have H01 := Aside0.mk (And.intro hr0_1 hc0_1)
  have H02 := Aside0.mk (And.intro hr0_2 hc0_2)
  have H03 := Aside0.mk (And.intro hr0_3 hc0_3)
  have H04 := Aside0.mk (And.intro hr0_4 hc0_4)
  have H11 := Aside0.mk (And.intro hr1_1 hc1_1)
  clear hr1_0 hc1_0 hbyte hg hr0_0 hc0_0 hr0_1 hc0_1 hr0_2 hc0_2 hr0_3 hc0_3 hr0_4 hc0_4 hr1_1 hc1_1
  go_enter Tryd.func3, Tryd.ntmps3
  go_upto_region 1 with fail
  have B0 : Aside0 (Below W.heap.size W ((W.alloc (.cells #[.slice A0_0 l0_0.length c0_0, .slice A0_1 l0_1.length c0_1, .slice A0_2 l0_2.length c0_2, .slice A0_3 l0_3.length c0_3, .slice A0_4 l0_4.length c0_4, .int .i64 a0_5, .int .i64 a0_6, .int .i64 a0_7] 28)).alloc (.cells #[.slice A1_0 l1_0.length c1_0, .slice A1_1 l1_1.length c1_1] 31))) := ⟨((Below.refl _ W).alloc (Nat.le_refl _) _).alloc (by simp) _⟩
  have E0 : Aside0 (((W.alloc (.cells #[.slice A0_0 l0_0.length c0_0, .slice A0_1 l0_1.length c0_1, .slice A0_2 l0_2.length c0_2, .slice A0_3 l0_3.length c0_3, .slice A0_4 l0_4.length c0_4, .int .i64 a0_5, .int .i64 a0_6, .int .i64 a0_7] 28)).alloc (.cells #[.slice A1_0 l1_0.length c1_0, .slice A1_1 l1_1.length c1_1] 31)).heap[W.heap.size]? = some (.cells #[.slice A0_0 l0_0.length c0_0, .slice A0_1 l0_1.length c0_1, .slice A0_2 l0_2.length c0_2, .slice A0_3 l0_3.length c0_3, .slice A0_4 l0_4.length c0_4, .int .i64 a0_5, .int .i64 a0_6, .int .i64 a0_7] 28 (0, 0))) := ⟨(Below.heap_alloc _ _ _ (by simp)).trans (World.alloc_heap_new W _)⟩
  have E1 : Aside0 (((W.alloc (.cells #[.slice A0_0 l0_0.length c0_0, .slice A0_1 l0_1.length c0_1, .slice A0_2 l0_2.length c0_2, .slice A0_3 l0_3.length c0_3, .slice A0_4 l0_4.length c0_4, .int .i64 a0_5, .int .i64 a0_6, .int .i64 a0_7] 28)).alloc (.cells #[.slice A1_0 l1_0.length c1_0, .slice A1_1 l1_1.length c1_1] 31)).heap[W.heap.size + 1]? = some (.cells #[.slice A1_0 l1_0.length c1_0, .slice A1_1 l1_1.length c1_1] 31 (0, 0))) := ⟨by have := World.alloc_heap_new (W.alloc (.cells #[.slice A0_0 l0_0.length c0_0, .slice A0_1 l0_1.length c0_1, .slice A0_2 l0_2.length c0_2, .slice A0_3 l0_3.length c0_3, .slice A0_4 l0_4.length c0_4, .int .i64 a0_5, .int .i64 a0_6, .int .i64 a0_7] 28)) (.cells #[.slice A1_0 l1_0.length c1_0, .slice A1_1 l1_1.length c1_1] 31); rwa [World.size_alloc] at this⟩
  generalize ((W.alloc (.cells #[.slice A0_0 l0_0.length c0_0, .slice A0_1 l0_1.length c0_1, .slice A0_2 l0_2.length c0_2, .slice A0_3 l0_3.length c0_3, .slice A0_4 l0_4.length c0_4, .int .i64 a0_5, .int .i64 a0_6, .int .i64 a0_7] 28)).alloc (.cells #[.slice A1_0 l1_0.length c1_0, .slice A1_1 l1_1.length c1_1] 31)) = W0 at B0 E0 E1 ⊢
  have x0 : W0.cell? ⟨W.heap.size + 1, 0, none⟩ = some (.slice A1_0 l1_0.length c1_0) := by simp [World.cell?, E1.out]
  have x1 : W0.cell? ⟨W.heap.size + 1, 1, none⟩ = some (.slice A1_1 l1_1.length c1_1) := by simp [World.cell?, E1.out]
  go_upto_region 2 with (first | (go_at_call 10; refine (cut_calls _ _ l1_0 _ _ _ W _ B0.out HR.out.1 HR.out.2.1).mono ?_; rintro e w1 ⟨A', c', vs, rfl, ho, hrep, hb⟩; have H1 := Aside0.mk (And.intro ho (And.intro hrep hb)); have F1 := Aside0.mk (blk_below H1.out.2.2 E1.out); clear ho hrep hb; have z0 : w1.cell? ⟨W.heap.size + 1, 0, none⟩ = some (.slice A1_0 l1_0.length c1_0) := (by simp [World.cell?, F1.out]); have z1 : w1.cell? ⟨W.heap.size + 1, 1, none⟩ = some (.slice A1_1 l1_1.length c1_1) := (by simp [World.cell?, F1.out]); have f0 : w1.frozen? ⟨W.heap.size + 1, 0, none⟩ = false := (by simp [World.frozen?, F1.out]); have f1 : w1.frozen? ⟨W.heap.size + 1, 1, none⟩ = false := (by simp [World.frozen?, F1.out])))
  clear z0 z1 f0 f1 x0 x1
  have F0 := Aside0.mk (blk_below H1.out.2.2 E0.out)
  have B1 : Aside0 (Below W.heap.size W w1) := ⟨B0.out.trans (H1.out.2.2.mono B0.out.size)⟩
  have K0 : Aside0 ((w1.setCells (W.heap.size + 1) 0 [.slice A' (cutB l1_0).length c', .slice A1_1 l1_1.length c1_1]).heap[W.heap.size]? = some (.cells #[.slice A0_0 l0_0.length c0_0, .slice A0_1 l0_1.length c0_1, .slice A0_2 l0_2.length c0_2, .slice A0_3 l0_3.length c0_3, .slice A0_4 l0_4.length c0_4, .int .i64 a0_5, .int .i64 a0_6, .int .i64 a0_7] 28 (0, 0))) := ⟨(far_setCells (by omega) _ _ _).trans F0.out⟩
  have K1 : Aside0 ((w1.setCells (W.heap.size + 1) 0 [.slice A' (cutB l1_0).length c', .slice A1_1 l1_1.length c1_1]).heap[W.heap.size + 1]? = some (.cells #[.slice A' (cutB l1_0).length c', .slice A1_1 l1_1.length c1_1] 31 (0, 0))) := ⟨blk_setCells _ 0 _ w1 F1.out⟩
  have B2 : Aside0 (Below W.heap.size W (w1.setCells (W.heap.size + 1) 0 [.slice A' (cutB l1_0).length c', .slice A1_1 l1_1.length c1_1])) := ⟨below_setCells (by omega) _ 0 _ B1.out⟩
  have R1 := own_setCells (own_ne H1.out.1 F1.out (by decide)) [.slice A' (cutB l1_0).length c', .slice A1_1 l1_1.length c1_1] 0 _ H1.out.1
  obtain ⟨A2, c2, ev, hc2, hC2⟩ := row_reads R1 H1.out.2.1 B2.out
  obtain ⟨rfl, rfl⟩ : A' = A2 ∧ c' = c2 := by simpa using ev
  have R2 := Aside0.mk (And.intro hc2 hC2)
  clear R1 ev hc2 hC2
  change Code.wp Tryd.prog _ _ _ (w1.setCells (W.heap.size + 1) 0 [.slice A' (cutB l1_0).length c', .slice A1_1 l1_1.length c1_1])
  clear H1 F1 F0 B1 E1 E0 B0
  generalize w1.setCells (W.heap.size + 1) 0 [.slice A' (cutB l1_0).length c', .slice A1_1 l1_1.length c1_1] = w2 at K0 K1 B2 R2 ⊢
  have HS : Aside0 (∀ x ∈ cutB l1_0, x.length ≤ 1000) := ⟨fun x hx => Nat.le_trans (cutB_short l1_0 x hx) (by omega)⟩
  have HY : Aside0 (∀ x ∈ cutB l1_0, ∀ y ∈ x, Byte y) := ⟨cutB_byte HR.out.2.2.1⟩
  refine wp_region_held_drew (S := fun w' => Below w2.heap.size w2 w') (by kernel_rfl) (pw_below_drewN (Below.refl _ _) 1) (fun hHeld => ?_)
  generalize w2.drew = w3 at hHeld ⊢
  refine take_at (i := 0) (v := (.agg #[.slice A0_0 l0_0.length c0_0, .slice A0_1 l0_1.length c0_1, .slice A0_2 l0_2.length c0_2, .slice A0_3 l0_3.length c0_3, .slice A0_4 l0_4.length c0_4, .int .i64 a0_5, .int .i64 a0_6, .int .i64 a0_7])) 9 rfl rfl (by kernel_rfl) (by kernel_rfl) (by kernel_rfl) (fun _ _ _ h => h) (yields_blk (by rfl) 28 (.tmp 3) rfl W.heap.size _ 28 rfl _ (fun w' hS => blk_below hS K0.out) Tryd.underlying28 rfl (by kernel_rfl)) hHeld ?_
  try simp only [Act.put, List.setIfInBounds_toArray, List.set_cons_zero, List.set_cons_succ]
  refine take_at (i := 1) (v := (.agg #[.slice A' (cutB l1_0).length c', .slice A1_1 l1_1.length c1_1])) 10 rfl rfl (by kernel_rfl) (by kernel_rfl) (by kernel_rfl) (fun _ _ _ h => h) (yields_blk (by rfl) 31 (.tmp 4) rfl (W.heap.size + 1) _ 31 rfl _ (fun w' hS => blk_below hS K1.out) Tryd.underlying31 rfl (by kernel_rfl)) hHeld ?_
  try simp only [Act.put, List.setIfInBounds_toArray, List.set_cons_zero, List.set_cons_succ]
  refine take_at (i := 2) (v := (.int .i64 a2)) 11 rfl rfl (by kernel_rfl) (by kernel_rfl) (by kernel_rfl) (fun _ _ _ h => h) (Or.inl ⟨by rfl, fun w _ => by first | (go_simp; done) | (go_simp; with_reducible rfl) | rfl⟩) hHeld ?_
  try simp only [Act.put, List.setIfInBounds_toArray, List.set_cons_zero, List.set_cons_succ]
  refine take_at (i := 4) (v := (.agg #[.slice A0_0 l0_0.length c0_0, .slice A0_1 l0_1.length c0_1, .slice A0_2 l0_2.length c0_2, .slice A0_3 l0_3.length c0_3, .slice A0_4 l0_4.length c0_4, .int .i64 a0_5, .int .i64 a0_6, .int .i64 a0_7])) 13 rfl rfl (by kernel_rfl) (by kernel_rfl) (by kernel_rfl) (fun _ _ _ h => h) (yields_blk (by rfl) 28 (.tmp 3) rfl W.heap.size _ 28 rfl _ (fun w' hS => blk_below hS K0.out) Tryd.underlying28 rfl (by kernel_rfl)) hHeld ?_
  try simp only [Act.put, List.setIfInBounds_toArray, List.set_cons_zero, List.set_cons_succ]
  refine take_at (i := 5) (v := (.agg #[.slice A' (cutB l1_0).length c', .slice A1_1 l1_1.length c1_1])) 14 rfl rfl (by kernel_rfl) (by kernel_rfl) (by kernel_rfl) (fun _ _ _ h => h) (yields_blk (by rfl) 31 (.tmp 4) rfl (W.heap.size + 1) _ 31 rfl _ (fun w' hS => blk_below hS K1.out) Tryd.underlying31 rfl (by kernel_rfl)) hHeld ?_
  try simp only [Act.put, List.setIfInBounds_toArray, List.set_cons_zero, List.set_cons_succ]
  refine take_at (i := 6) (v := (.int .i64 a2)) 15 rfl rfl (by kernel_rfl) (by kernel_rfl) (by kernel_rfl) (fun _ _ _ h => h) (Or.inl ⟨by rfl, fun w _ => by first | (go_simp; done) | (go_simp; with_reducible rfl) | rfl⟩) hHeld ?_
  try simp only [Act.put, List.setIfInBounds_toArray, List.set_cons_zero, List.set_cons_succ]
  have N3 := Aside0.mk hHeld
  refine wpAnyH_ready (rs := [3]) (by kernel_rfl) (by simp) ?_
  refine AllReadyH.cons rfl (fun K hK => ?_) AllReadyH.nil
  go_simp
  go_wp2_with (first | (go_at_call 12; refine (Tick_calls _ _ _ _ _ _ _ _ a2 a0_6 A' c' (cutB l1_0) _ R2.out.1 (Kd.C_below R2.out.2 N3.out) HS.out (HR.out.2.2.2.below (B2.out.trans (N3.out.mono B2.out.size)))).mono ?_; rintro e w4 ⟨A4, c4, rfl, hc4, hC4, hb⟩; have N4 := Aside0.mk (below_step N3.out hb); have H4 := Aside0.mk (And.intro hc4 hC4); have Q4 := Aside0.mk hb; clear hb hc4 hC4))
  clear hHeld
  refine hK.out _ _ N4.out (fun hHeld => ?_)
  clear hK K
  try simp only [Act.put, List.setIfInBounds_toArray, List.set_cons_zero, List.set_cons_succ]
  have X4 : Aside0 (Below W.heap.size W w4) := ⟨B2.out.trans (N4.out.mono B2.out.size)⟩
  refine wpAnyH_ready (rs := [7]) (by kernel_rfl) (by simp) ?_
  refine AllReadyH.cons rfl (fun K hK => ?_) AllReadyH.nil
  go_simp
  go_wp2_with (first | (go_at_call 13; refine (rampartref21_Tick.calls 200 _ _ l0_0 _ _ l0_1 _ _ l0_2 _ _ l0_3 _ _ l0_4 a0_5 a0_6 a0_7 A' c' (cutB l1_0) _ _ l1_1 a2 (items (cutB l1_0) a2 a0_6) _ (Kd.C_below H00.out.1 (X4.out)) H00.out.2 (Kd.C_below H01.out.1 X4.out) H01.out.2 (Kd.C_below H02.out.1 X4.out) H02.out.2 (Kd.C_below H03.out.1 X4.out) H03.out.2 (Kd.C_below H04.out.1 X4.out) H04.out.2 (Kd.C_below R2.out.2 N4.out) R2.out.1 (Kd.C_below H11.out.1 X4.out) H11.out.2 (RTick_eq _ _ _ _ _ _ _ _ _ _ _ HS.out HY.out)).mono ?_; rintro e w5 ⟨v5, rfl, hR5, hb⟩; obtain ⟨A5, c5, rfl, hc5, hC5⟩ := Kd.R_reads hR5; have N5 := Aside0.mk (below_step N4.out hb); have H5 := Aside0.mk (And.intro hc5 hC5); have Q5 := Aside0.mk hb; clear hb hc5 hC5 hR5))
  clear hHeld
  refine hK.out _ _ N5.out (fun hHeld => ?_)
  clear hK K
  try simp only [Act.put, List.setIfInBounds_toArray, List.set_cons_zero, List.set_cons_succ]
  refine wpAnyH_ready (rs := [8]) (by kernel_rfl) (by simp) ?_
  refine AllReadyH.cons rfl (fun K hK => ?_) AllReadyH.nil
  go_simp
  go_wp2_with (first | (go_at_call 11; refine (rampartref21_Same.calls 1001 _ _ _ _ _ _ true _ (Kd.C_below H4.out.2 Q5.out) H4.out.1 H5.out.2 H5.out.1 (same_self _ (items_short HS.out _ _))).mono ?_; rintro e w6 ⟨rfl, hb⟩; have N6 := Aside0.mk (below_step N5.out (drawn_below hb)); clear hb))
  clear hHeld
  refine hK.out _ _ N6.out (fun hHeld => ?_)
  clear hK K
  try simp only [Act.put, List.setIfInBounds_toArray, List.set_cons_zero, List.set_cons_succ]
  refine take_at (i := 9) (v := .bool true) 18 rfl rfl (by kernel_rfl) (by kernel_rfl) (by kernel_rfl) (fun _ _ _ h => h) (Or.inl ⟨by rfl, fun w _ => by first | (go_simp; done) | (go_simp; with_reducible rfl) | rfl⟩) hHeld ?_
  try simp only [Act.put, List.setIfInBounds_toArray, List.set_cons_zero, List.set_cons_succ]
  refine wpAnyH_ready (rs := [10]) (by kernel_rfl) (by simp) ?_
  refine AllReadyH.cons rfl (fun K hK => ?_) AllReadyH.nil
  go_simp
  go_wp2_with (first | (go_at_call 14; refine (alive_calls _ (HR.out.2.2.2.below (B2.out.trans (N6.out.mono B2.out.size)))).mono ?_; rintro e w7 ⟨rfl, hb⟩; have N7 := Aside0.mk (below_step N6.out hb); clear hb))
  clear hHeld
  refine hK.out _ _ N7.out (fun hHeld => ?_)
  clear hK K
  try simp only [Act.put, List.setIfInBounds_toArray, List.set_cons_zero, List.set_cons_succ]
  refine take_at (i := 11) (v := .bool true) 20 rfl rfl (by kernel_rfl) (by kernel_rfl) (by kernel_rfl) (fun _ _ _ h => h) (Or.inl ⟨by rfl, fun w _ => by first | (go_simp; done) | (go_simp; with_reducible rfl) | rfl⟩) hHeld ?_
  try simp only [Act.put, List.setIfInBounds_toArray, List.set_cons_zero, List.set_cons_succ]
  refine take_at (i := 12) (v := .bool true) 6 rfl rfl (by kernel_rfl) (by kernel_rfl) (by kernel_rfl) (fun _ _ _ h => h) (Or.inl ⟨by rfl, fun w _ => by first | (go_simp; done) | (go_simp; with_reducible rfl) | rfl⟩) hHeld ?_
  try simp only [Act.put, List.setIfInBounds_toArray, List.set_cons_zero, List.set_cons_succ]
  refine wpAnyH_done (by kernel_rfl) ?_ _
  clear hHeld
  go_wp2
  go_ret
  exact ⟨rfl, B2.out.trans (N7.out.mono B2.out.size)⟩
theorem byte_of {B : List (List Int)} (h : B.length * 24 ≤ 140737488351232 ∧ ∀ x ∈ B, x.length * 1 ≤ 140737488351232 ∧ ∀ y ∈ x, (Lit.int .u8 y).wf = true) : ∀ x ∈ B, ∀ y ∈ x, Byte y := by
  intro x hx y hy
  have := (h.2 x hx).2 y hy
  simp only [Lit.wf, IntKind.min, IntKind.max, IntKind.signed, IntKind.bits, Bool.and_eq_true, decide_eq_true_eq] at this
  unfold Byte
  simp at this
  omega
theorem DecodeTicks_hand (A0_0 : Option Addr) (c0_0 : Nat) (l0_0 : List Int) (A0_1 : Option Addr) (c0_1 : Nat) (l0_1 : List S97) (A0_2 : Option Addr) (c0_2 : Nat) (l0_2 : List S87) (A0_3 : Option Addr) (c0_3 : Nat) (l0_3 : List S107) (A0_4 : Option Addr) (c0_4 : Nat) (l0_4 : List Int) (a0_5 a0_6 a0_7 : Int) (A1_0 : Option Addr) (c1_0 : Nat) (l1_0 : List (List Int)) (A1_1 : Option Addr) (c1_1 : Nat) (l1_1 : List Int) (a2 : Int) (W : World)
    (hr0_0 : Kd.C (Kd.int .u64) W A0_0 l0_0.length l0_0) (hc0_0 : l0_0.length ≤ c0_0) (hr0_1 : Kd.C k97 W A0_1 l0_1.length l0_1) (hc0_1 : l0_1.length ≤ c0_1) (hr0_2 : Kd.C k87 W A0_2 l0_2.length l0_2) (hc0_2 : l0_2.length ≤ c0_2) (hr0_3 : Kd.C k107 W A0_3 l0_3.length l0_3) (hc0_3 : l0_3.length ≤ c0_3) (hr0_4 : Kd.C (Kd.int .i64) W A0_4 l0_4.length l0_4) (hc0_4 : l0_4.length ≤ c0_4) (hr1_0 : Kd.C (Kd.slice 5 (Kd.int .u8)) W A1_0 l1_0.length l1_0) (hc1_0 : l1_0.length ≤ c1_0) (hr1_1 : Kd.C (Kd.int .i64) W A1_1 l1_1.length l1_1) (hc1_1 : l1_1.length ≤ c1_1)
    {P0 P1 P2 : Prop} (_h0 : P0) (h1 : (l1_0.length * 24 ≤ 140737488351232 ∧ ∀ x ∈ l1_0, x.length * 1 ≤ 140737488351232 ∧ ∀ y ∈ x, (Lit.int .u8 y).wf = true) ∧ P1) (_h2 : P2) (hg : Glob W) :
    Calls Tryd.prog 3 #[.agg #[.slice A0_0 l0_0.length c0_0, .slice A0_1 l0_1.length c0_1, .slice A0_2 l0_2.length c0_2, .slice A0_3 l0_3.length c0_3, .slice A0_4 l0_4.length c0_4, .int .i64 a0_5, .int .i64 a0_6, .int .i64 a0_7], .agg #[.slice A1_0 l1_0.length c1_0, .slice A1_1 l1_1.length c1_1], .int .i64 a2] W fun e w' => e = .returned (.bool true) ∧ Below W.heap.size W w' :=
  DecodeTicks_walk A0_0 c0_0 l0_0 A0_1 c0_1 l0_1 A0_2 c0_2 l0_2 A0_3 c0_3 l0_3 A0_4 c0_4 l0_4 a0_5 a0_6 a0_7 A1_0 c1_0 l1_0 A1_1 c1_1 l1_1 a2 W hr0_0 hc0_0 hr0_1 hc0_1 hr0_2 hc0_2 hr0_3 hc0_3 hr0_4 hc0_4 hr1_0 hc1_0 hr1_1 hc1_1 (byte_of h1.1) hg
end Go.Proofs.YtoliipbmcekciaaDoor.QDc
