/- Functions that several claims of this seat share: Lean lines written by a program out of the loaded program's print. -/
import Derived.Test.YtoliipbmcekciaaDoorQDcx0
namespace Go.Proofs.YtoliipbmcekciaaDoor.QDc
open Go.RowKit Go.Proofs.YtoliipbmcekciaaDoorW.PrintWords Go.Proofs.YtoliipbmcekciaaDoorW.PrintLast Go.Proofs.YtoliipbmcekciaaDoorW.PrintMore
attribute [local go_sem] max2_int min2_int max_two min_two max_three min_three max_four min_four   -- for this text's walks alone
set_option linter.unusedVariables false
set_option linter.unusedSimpArgs false

/-! ### rampartref03_Is: function 63 -/
mutual
def rampartref03_Is.j0 : Nat → Bool → Int → Int → Int → Int → Int → Option (Bool)
  | 0, _, _, _, _, _, _ => none
  | k + 1, x3, x128000, x128001, x128002, x128003, x128004 => if x128000 = 1 then (if x3 = true then (if x128003 = 0 then (some (x128004 == 0)) else (some false)) else (some false)) else (if x128000 = 2 then (rampartref03_Is.j1 k x3 x128000 (x128000 == 2) x128000 x128001 x128002 x128003 x128004) else (if x128000 = 4 then (rampartref03_Is.j1 k x3 x128000 (x128000 == 4) x128000 x128001 x128002 x128003 x128004) else (if x128000 = 6 then (rampartref03_Is.j1 k x3 x128000 (x128000 == 6) x128000 x128001 x128002 x128003 x128004) else (rampartref03_Is.j1 k x3 x128000 (x128000 == 7) x128000 x128001 x128002 x128003 x128004))))
def rampartref03_Is.j1 : Nat → Bool → Int → Bool → Int → Int → Int → Int → Int → Option (Bool)
  | 0, _, _, _, _, _, _, _, _ => none
  | k + 1, x3, x13, x27, x128000, x128001, x128002, x128003, x128004 => if x27 = true then (if x128001 = 0 then (if x128002 = 0 then (some (x128004 == 0)) else (some false)) else (some false)) else (if x13 = 3 then (if x128001 = 0 then (some (x128002 == 0)) else (some false)) else (if x13 = 5 then (if x3 = true then (some (x128004 == 0)) else (some false)) else (if x13 = 8 then (if x128002 = 0 then (some (x128003 == 0)) else (some false)) else (if x13 = 9 then (if x128001 = 0 then (if x128002 = 0 then (if x128003 = 0 then (some (x128004 == 0)) else (some false)) else (some false)) else (some false)) else (some false)))))
end
def rampartref03_Is.f (k : Nat) (a0_0 : Int) (a0_1 : Int) (a0_2 : Int) (a0_3 : Int) (a0_4 : Int) : Option (Bool) := if a0_2 ≥ 1 then (rampartref03_Is.j0 k (decide (a0_2 ≤ 7)) a0_0 a0_1 a0_2 a0_3 a0_4) else (rampartref03_Is.j0 k false a0_0 a0_1 a0_2 a0_3 a0_4)
theorem rampartref03_Is.mono_l : ∀ k, (∀ y0 y1 y2 y3 y4 y5, LeO (rampartref03_Is.j0 k y0 y1 y2 y3 y4 y5) (rampartref03_Is.j0 (k + 1) y0 y1 y2 y3 y4 y5)) ∧ (∀ y0 y1 y2 y3 y4 y5 y6 y7, LeO (rampartref03_Is.j1 k y0 y1 y2 y3 y4 y5 y6 y7) (rampartref03_Is.j1 (k + 1) y0 y1 y2 y3 y4 y5 y6 y7))
  | 0 => ⟨fun _ _ _ _ _ _ r h => by simp [rampartref03_Is.j0] at h, fun _ _ _ _ _ _ _ _ r h => by simp [rampartref03_Is.j1] at h⟩
  | k + 1 => by
    obtain ⟨ih0, ih1⟩ := rampartref03_Is.mono_l k
    refine ⟨?_, ?_⟩
    · intro y0 y1 y2 y3 y4 y5
      unfold rampartref03_Is.j0
      repeat' first
      | (with_reducible exact ih0 _ _ _ _ _ _)
      | (with_reducible exact ih1 _ _ _ _ _ _ _ _)
      | (with_reducible exact LeO.refl _)
      | (with_reducible exact LeO.none _)
      | (with_reducible refine LeO.ite ?_ ?_)
      | (with_reducible refine LeO.bind ?_ (fun _ => ?_))
      | exact ih0 _ _ _ _ _ _
      | exact ih1 _ _ _ _ _ _ _ _
      | exact LeO.none _
      | refine LeO.ite ?_ ?_
      | refine LeO.bind ?_ (fun _ => ?_)
    · intro y0 y1 y2 y3 y4 y5 y6 y7
      unfold rampartref03_Is.j1
      repeat' first
      | (with_reducible exact ih0 _ _ _ _ _ _)
      | (with_reducible exact ih1 _ _ _ _ _ _ _ _)
      | (with_reducible exact LeO.refl _)
      | (with_reducible exact LeO.none _)
      | (with_reducible refine LeO.ite ?_ ?_)
      | (with_reducible refine LeO.bind ?_ (fun _ => ?_))
      | exact ih0 _ _ _ _ _ _
      | exact ih1 _ _ _ _ _ _ _ _
      | exact LeO.none _
      | refine LeO.ite ?_ ?_
      | refine LeO.bind ?_ (fun _ => ?_)
theorem rampartref03_Is.mono : ∀ a0 a1 a2 a3 a4 k, LeO (rampartref03_Is.f k a0 a1 a2 a3 a4) (rampartref03_Is.f (k + 1) a0 a1 a2 a3 a4) := by
  intro a0 a1 a2 a3 a4 k
  obtain ⟨ih0, ih1⟩ := rampartref03_Is.mono_l k
  unfold rampartref03_Is.f
  repeat' first
      | (with_reducible exact ih0 _ _ _ _ _ _)
      | (with_reducible exact ih1 _ _ _ _ _ _ _ _)
      | (with_reducible exact LeO.refl _)
      | (with_reducible exact LeO.none _)
      | (with_reducible refine LeO.ite ?_ ?_)
      | (with_reducible refine LeO.bind ?_ (fun _ => ?_))
      | exact ih0 _ _ _ _ _ _
      | exact ih1 _ _ _ _ _ _ _ _
      | exact LeO.none _
      | refine LeO.ite ?_ ?_
      | refine LeO.bind ?_ (fun _ => ?_)
set_option maxHeartbeats 8000000 in
set_option maxRecDepth 100000 in
theorem rampartref03_Is.calls (k : Nat) (a0_0 : Int) (a0_1 : Int) (a0_2 : Int) (a0_3 : Int) (a0_4 : Int) (r : Bool) (w : World) (h : rampartref03_Is.f k a0_0 a0_1 a0_2 a0_3 a0_4 = some r) :
    Calls Tryd.prog 63 #[.agg #[.int .u8 a0_0, .int .u8 a0_1, .int .u8 a0_2, .int .u32 a0_3, .int .u64 a0_4]] w fun e w' => e = .returned (.bool r) ∧ Below w.heap.size w w' := by
  have hu55 := Tryd.underlying55
  have HB := Aside0.mk (Below.refl w.heap.size w)
  have H : (if a0_2 ≥ 1 then (rampartref03_Is.j0 k (decide (a0_2 ≤ 7)) a0_0 a0_1 a0_2 a0_3 a0_4) else (rampartref03_Is.j0 k false a0_0 a0_1 a0_2 a0_3 a0_4)) = some r := h
  clear h
  have HC2 := Aside0.mk H
  clear H
  go_enter Tryd.func63, Tryd.ntmps63
  go_upto_region 1 with (first | ((with_reducible refine gate_dst (N := 1) rfl ?_); refine box_event ?hg (N := 1) ?hd (cs := #[.int .u8 a0_0, .int .u8 a0_1, .int .u8 a0_2, .int .u32 a0_3, .int .u64 a0_4]) (t := 55) ?hr ?_; (case hd => rfl); (case hg => rfl); (case hr => first | (go_simp; done) | (go_simp; rfl)); intro gb127 hg w3 hbox hb; have n0_ := Aside0.mk (below_step (by repeat (first | (with_reducible first | exact HB.out | apply below_alloc | apply pw_below_drewN | apply below_drew1) | exact HB.out)) hb); have n1_ := Aside0.mk (hbox); have n2_ := Aside0.mk ((by rw [hg]; exact (below_size (by repeat (first | (with_reducible first | exact HB.out | apply below_alloc | apply pw_below_drewN | apply below_drew1) | exact HB.out))) : w.heap.size ≤ gb127)); have n3_ := Aside0.mk ((by rw [hg]; exact (below_size (by repeat (first | (with_reducible first | exact HB.out | apply below_alloc | apply pw_below_drewN | apply below_drew1) | exact HB.out))) : w.heap.size ≤ gb127)); clear HB; have HB := n0_; have BK127 := n1_; have GW127 := n2_; have GE127 := n3_; clear n0_ n1_ n2_ n3_; clear hb hbox hg))
  (try simp only [Act.put, List.setIfInBounds_toArray, List.set_cons_zero, List.set_cons_succ])
  go_cut [3] (fun v3 wc => ∃ (kq : Nat) (x3_1 : Bool), v3 = .bool x3_1 ∧ Aside0 (rampartref03_Is.j0 kq x3_1 a0_0 a0_1 a0_2 a0_3 a0_4 = some r) ∧ Aside0 (kq ≤ k) ∧ Aside0 (wc.heap[gb127]? = some (.cells #[.int .u8 a0_0, .int .u8 a0_1, .int .u8 a0_2, .int .u32 a0_3, .int .u64 a0_4] 55 (0, 0))) ∧ Aside0 (Below w.heap.size w wc))
  case first =>
    have H := HC2.out
    clear HC2
    by_cases c4 : a0_2 ≥ 1
    · rw [if_pos c4] at H
      have c4b0 : decide (1 ≤ a0_2) = true := decide_eq_true c4
      clear c4
      (first | rw [c4b0] | (simp only [i64_w, i32_w]; rw [c4b0]) | skip)
      have H' := Aside0.mk H
      clear H
      have hcz5_0 : w3.cell? ⟨gb127, 0, none⟩ = some (.int .u8 a0_0) := (blk_cell BK127.out 0).trans rfl
      have hcz5_1 : w3.cell? ⟨gb127, 1, none⟩ = some (.int .u8 a0_1) := (blk_cell BK127.out 1).trans rfl
      have hcz5_2 : w3.cell? ⟨gb127, 2, none⟩ = some (.int .u8 a0_2) := (blk_cell BK127.out 2).trans rfl
      have hcz5_3 : w3.cell? ⟨gb127, 3, none⟩ = some (.int .u32 a0_3) := (blk_cell BK127.out 3).trans rfl
      have hcz5_4 : w3.cell? ⟨gb127, 4, none⟩ = some (.int .u64 a0_4) := (blk_cell BK127.out 4).trans rfl
      have hfz5_0 := blk_frozen BK127.out 0
      have hfz5_1 := blk_frozen BK127.out 1
      have hfz5_2 := blk_frozen BK127.out 2
      have hfz5_3 := blk_frozen BK127.out 3
      have hfz5_4 := blk_frozen BK127.out 4
      go_wp2
      go_meet
      case rel => exact ⟨_, (decide (a0_2 ≤ 7)), (by first | rfl | (simp; done) | (simp [*]; done)), H', ⟨by first | omega | exact Nat.le_refl _⟩, ⟨by (with_reducible repeat (first | refine blk_drewN ?_ _ | refine blk_drew ?_ | refine blk_alloc ?_ _)); exact BK127.out⟩, ⟨by repeat (first | (with_reducible first | exact HB.out | apply below_alloc | apply pw_below_drewN | apply below_drew1 | refine below_set ?_ GE127.out) | exact HB.out)⟩⟩
    · rw [if_neg c4] at H
      have c4b0 : decide (1 ≤ a0_2) = false := decide_eq_false c4
      clear c4
      (first | rw [c4b0] | (simp only [i64_w, i32_w]; rw [c4b0]) | skip)
      have H' := Aside0.mk H
      clear H
      have hcz6_0 : w3.cell? ⟨gb127, 0, none⟩ = some (.int .u8 a0_0) := (blk_cell BK127.out 0).trans rfl
      have hcz6_1 : w3.cell? ⟨gb127, 1, none⟩ = some (.int .u8 a0_1) := (blk_cell BK127.out 1).trans rfl
      have hcz6_2 : w3.cell? ⟨gb127, 2, none⟩ = some (.int .u8 a0_2) := (blk_cell BK127.out 2).trans rfl
      have hcz6_3 : w3.cell? ⟨gb127, 3, none⟩ = some (.int .u32 a0_3) := (blk_cell BK127.out 3).trans rfl
      have hcz6_4 : w3.cell? ⟨gb127, 4, none⟩ = some (.int .u64 a0_4) := (blk_cell BK127.out 4).trans rfl
      have hfz6_0 := blk_frozen BK127.out 0
      have hfz6_1 := blk_frozen BK127.out 1
      have hfz6_2 := blk_frozen BK127.out 2
      have hfz6_3 := blk_frozen BK127.out 3
      have hfz6_4 := blk_frozen BK127.out 4
      go_wp2
      go_meet
      case rel => exact ⟨_, (false), (by first | rfl | (simp; done) | (simp [*]; done)), H', ⟨by first | omega | exact Nat.le_refl _⟩, ⟨by (with_reducible repeat (first | refine blk_drewN ?_ _ | refine blk_drew ?_ | refine blk_alloc ?_ _)); exact BK127.out⟩, ⟨by repeat (first | (with_reducible first | exact HB.out | apply below_alloc | apply pw_below_drewN | apply below_drew1 | refine below_set ?_ GE127.out) | exact HB.out)⟩⟩
  case rest =>
    clear HC2
    try clear p2
    try clear c4
    try clear c4b0
    try clear c6
    try clear hcz5_0
    try clear hcz5_1
    try clear hcz5_2
    try clear hcz5_3
    try clear hcz5_4
    try clear hcz6_0
    try clear hcz6_1
    try clear hcz6_2
    try clear hcz6_3
    try clear hcz6_4
    try clear hfz5_0
    try clear hfz5_1
    try clear hfz5_2
    try clear hfz5_3
    try clear hfz5_4
    try clear hfz6_0
    try clear hfz6_1
    try clear hfz6_2
    try clear hfz6_3
    try clear hfz6_4
    obtain ⟨kq, x3_1, rfl, HA, HJ1, BK127, HB⟩ := hcut
    cases kq with
    | zero => exact absurd HA.out (by simp [rampartref03_Is.j0])
    | succ kj1 =>
      have H := HA.out
      clear HA
      simp only [rampartref03_Is.j0] at H
      by_cases c7 : a0_0 = 1
      · rw [if_pos c7] at H
        have c7b0 : (a0_0 == 1) = true := beq_iff_eq.mpr c7
        have c7b1 : (a0_0 != 1) = false := bne_eq_false_iff_eq.mpr c7
        clear c7
        by_cases c8 : x3_1 = true
        · subst c8
          have H1 : (if a0_3 = 0 then (some (a0_4 == 0)) else (some false)) = some r := by rw [if_pos rfl] at H; exact H
          clear H
          have H := H1
          clear H1
          by_cases c9 : a0_3 = 0
          · rw [if_pos c9] at H
            have c9b0 : (a0_3 == 0) = true := beq_iff_eq.mpr c9
            have c9b1 : (a0_3 != 0) = false := bne_eq_false_iff_eq.mpr c9
            clear c9
            obtain rfl := Option.some.inj H
            have hcz10_0 : wc.cell? ⟨gb127, 0, none⟩ = some (.int .u8 a0_0) := (blk_cell BK127.out 0).trans rfl
            have hcz10_1 : wc.cell? ⟨gb127, 1, none⟩ = some (.int .u8 a0_1) := (blk_cell BK127.out 1).trans rfl
            have hcz10_2 : wc.cell? ⟨gb127, 2, none⟩ = some (.int .u8 a0_2) := (blk_cell BK127.out 2).trans rfl
            have hcz10_3 : wc.cell? ⟨gb127, 3, none⟩ = some (.int .u32 a0_3) := (blk_cell BK127.out 3).trans rfl
            have hcz10_4 : wc.cell? ⟨gb127, 4, none⟩ = some (.int .u64 a0_4) := (blk_cell BK127.out 4).trans rfl
            have hfz10_0 := blk_frozen BK127.out 0
            have hfz10_1 := blk_frozen BK127.out 1
            have hfz10_2 := blk_frozen BK127.out 2
            have hfz10_3 := blk_frozen BK127.out 3
            have hfz10_4 := blk_frozen BK127.out 4
            go_wp2
            go_ret
            exact ⟨by first | rfl | (simp [errW_none, errW_some] <;> rfl) | (simp [*, errW_none, errW_some] <;> rfl), by repeat (first | (with_reducible first | exact HB.out | apply below_alloc | apply pw_below_drewN | apply below_drew1 | refine below_set ?_ GE127.out) | exact HB.out)⟩
          · rw [if_neg c9] at H
            have c9b0 : (a0_3 == 0) = false := beq_eq_false_iff_ne.mpr c9
            have c9b1 : (a0_3 != 0) = true := bne_iff_ne.mpr c9
            obtain rfl := Option.some.inj H
            have hcz11_0 : wc.cell? ⟨gb127, 0, none⟩ = some (.int .u8 a0_0) := (blk_cell BK127.out 0).trans rfl
            have hcz11_1 : wc.cell? ⟨gb127, 1, none⟩ = some (.int .u8 a0_1) := (blk_cell BK127.out 1).trans rfl
            have hcz11_2 : wc.cell? ⟨gb127, 2, none⟩ = some (.int .u8 a0_2) := (blk_cell BK127.out 2).trans rfl
            have hcz11_3 : wc.cell? ⟨gb127, 3, none⟩ = some (.int .u32 a0_3) := (blk_cell BK127.out 3).trans rfl
            have hcz11_4 : wc.cell? ⟨gb127, 4, none⟩ = some (.int .u64 a0_4) := (blk_cell BK127.out 4).trans rfl
            have hfz11_0 := blk_frozen BK127.out 0
            have hfz11_1 := blk_frozen BK127.out 1
            have hfz11_2 := blk_frozen BK127.out 2
            have hfz11_3 := blk_frozen BK127.out 3
            have hfz11_4 := blk_frozen BK127.out 4
            go_wp2
            go_ret
            exact ⟨by first | rfl | (simp [errW_none, errW_some] <;> rfl) | (simp [*, errW_none, errW_some] <;> rfl), by repeat (first | (with_reducible first | exact HB.out | apply below_alloc | apply pw_below_drewN | apply below_drew1 | refine below_set ?_ GE127.out) | exact HB.out)⟩
        · replace c8 := Bool.eq_false_iff.mpr c8
          subst c8
          have H1 : (some false) = some r := by rw [if_neg (show ¬ (false = true) by decide)] at H; exact H
          clear H
          have H := H1
          clear H1
          obtain rfl := Option.some.inj H
          have hcz12_0 : wc.cell? ⟨gb127, 0, none⟩ = some (.int .u8 a0_0) := (blk_cell BK127.out 0).trans rfl
          have hcz12_1 : wc.cell? ⟨gb127, 1, none⟩ = some (.int .u8 a0_1) := (blk_cell BK127.out 1).trans rfl
          have hcz12_2 : wc.cell? ⟨gb127, 2, none⟩ = some (.int .u8 a0_2) := (blk_cell BK127.out 2).trans rfl
          have hcz12_3 : wc.cell? ⟨gb127, 3, none⟩ = some (.int .u32 a0_3) := (blk_cell BK127.out 3).trans rfl
          have hcz12_4 : wc.cell? ⟨gb127, 4, none⟩ = some (.int .u64 a0_4) := (blk_cell BK127.out 4).trans rfl
          have hfz12_0 := blk_frozen BK127.out 0
          have hfz12_1 := blk_frozen BK127.out 1
          have hfz12_2 := blk_frozen BK127.out 2
          have hfz12_3 := blk_frozen BK127.out 3
          have hfz12_4 := blk_frozen BK127.out 4
          go_wp2
          go_ret
          exact ⟨by first | rfl | (simp [errW_none, errW_some] <;> rfl) | (simp [*, errW_none, errW_some] <;> rfl), by repeat (first | (with_reducible first | exact HB.out | apply below_alloc | apply pw_below_drewN | apply below_drew1 | refine below_set ?_ GE127.out) | exact HB.out)⟩
      · rw [if_neg c7] at H
        have c7b0 : (a0_0 == 1) = false := beq_eq_false_iff_ne.mpr c7
        have c7b1 : (a0_0 != 1) = true := bne_iff_ne.mpr c7
        have HC13 := Aside0.mk H
        clear H
        have hcz14_0 : wc.cell? ⟨gb127, 0, none⟩ = some (.int .u8 a0_0) := (blk_cell BK127.out 0).trans rfl
        have hcz14_1 : wc.cell? ⟨gb127, 1, none⟩ = some (.int .u8 a0_1) := (blk_cell BK127.out 1).trans rfl
        have hcz14_2 : wc.cell? ⟨gb127, 2, none⟩ = some (.int .u8 a0_2) := (blk_cell BK127.out 2).trans rfl
        have hcz14_3 : wc.cell? ⟨gb127, 3, none⟩ = some (.int .u32 a0_3) := (blk_cell BK127.out 3).trans rfl
        have hcz14_4 : wc.cell? ⟨gb127, 4, none⟩ = some (.int .u64 a0_4) := (blk_cell BK127.out 4).trans rfl
        have hfz14_0 := blk_frozen BK127.out 0
        have hfz14_1 := blk_frozen BK127.out 1
        have hfz14_2 := blk_frozen BK127.out 2
        have hfz14_3 := blk_frozen BK127.out 3
        have hfz14_4 := blk_frozen BK127.out 4
        go_upto_if 27 with (fail)
        go_cut [27] (fun v27 wc => ∃ (kq : Nat) (x27_12 : Bool), v27 = .bool x27_12 ∧ Aside0 (rampartref03_Is.j1 kq x3_1 a0_0 x27_12 a0_0 a0_1 a0_2 a0_3 a0_4 = some r) ∧ Aside0 (kq ≤ kj1) ∧ Aside0 (wc.heap[gb127]? = some (.cells #[.int .u8 a0_0, .int .u8 a0_1, .int .u8 a0_2, .int .u32 a0_3, .int .u64 a0_4] 55 (0, 0))) ∧ Aside0 (Below w.heap.size w wc))
        case first =>
          have H := HC13.out
          clear HC13
          by_cases c15 : a0_0 = 2
          · rw [if_pos c15] at H
            have c15b0 : (a0_0 == 2) = true := beq_iff_eq.mpr c15
            have c15b1 : (a0_0 != 2) = false := bne_eq_false_iff_eq.mpr c15
            clear c15
            (first | rw [c15b0] | (simp only [i64_w, i32_w]; rw [c15b0]) | skip)
            have H' := Aside0.mk H
            clear H
            go_wp2
            go_meet
            case rel => exact ⟨_, ((a0_0 == 2)), (by first | rfl | (simp; done) | (simp [*]; done)), H', ⟨by have := HJ1.out; first | omega | exact Nat.le_refl _⟩, ⟨by (with_reducible repeat (first | refine blk_drewN ?_ _ | refine blk_drew ?_ | refine blk_alloc ?_ _)); exact BK127.out⟩, ⟨by repeat (first | (with_reducible first | exact HB.out | apply below_alloc | apply pw_below_drewN | apply below_drew1 | refine below_set ?_ GE127.out) | exact HB.out)⟩⟩
          · rw [if_neg c15] at H
            have c15b0 : (a0_0 == 2) = false := beq_eq_false_iff_ne.mpr c15
            have c15b1 : (a0_0 != 2) = true := bne_iff_ne.mpr c15
            (first | rw [c15b0] | (simp only [i64_w, i32_w]; rw [c15b0]) | skip)
            by_cases c16 : a0_0 = 4
            · rw [if_pos c16] at H
              have c16b0 : (a0_0 == 4) = true := beq_iff_eq.mpr c16
              have c16b1 : (a0_0 != 4) = false := bne_eq_false_iff_eq.mpr c16
              clear c16
              have H' := Aside0.mk H
              clear H
              go_wp2
              go_meet
              case rel => exact ⟨_, ((a0_0 == 4)), (by first | rfl | (simp; done) | (simp [*]; done)), H', ⟨by have := HJ1.out; first | omega | exact Nat.le_refl _⟩, ⟨by (with_reducible repeat (first | refine blk_drewN ?_ _ | refine blk_drew ?_ | refine blk_alloc ?_ _)); exact BK127.out⟩, ⟨by repeat (first | (with_reducible first | exact HB.out | apply below_alloc | apply pw_below_drewN | apply below_drew1 | refine below_set ?_ GE127.out) | exact HB.out)⟩⟩
            · rw [if_neg c16] at H
              have c16b0 : (a0_0 == 4) = false := beq_eq_false_iff_ne.mpr c16
              have c16b1 : (a0_0 != 4) = true := bne_iff_ne.mpr c16
              by_cases c17 : a0_0 = 6
              · rw [if_pos c17] at H
                have c17b0 : (a0_0 == 6) = true := beq_iff_eq.mpr c17
                have c17b1 : (a0_0 != 6) = false := bne_eq_false_iff_eq.mpr c17
                clear c17
                have H' := Aside0.mk H
                clear H
                go_wp2
                go_meet
                case rel => exact ⟨_, ((a0_0 == 6)), (by first | rfl | (simp; done) | (simp [*]; done)), H', ⟨by have := HJ1.out; first | omega | exact Nat.le_refl _⟩, ⟨by (with_reducible repeat (first | refine blk_drewN ?_ _ | refine blk_drew ?_ | refine blk_alloc ?_ _)); exact BK127.out⟩, ⟨by repeat (first | (with_reducible first | exact HB.out | apply below_alloc | apply pw_below_drewN | apply below_drew1 | refine below_set ?_ GE127.out) | exact HB.out)⟩⟩
              · rw [if_neg c17] at H
                have c17b0 : (a0_0 == 6) = false := beq_eq_false_iff_ne.mpr c17
                have c17b1 : (a0_0 != 6) = true := bne_iff_ne.mpr c17
                have H' := Aside0.mk H
                clear H
                go_wp2
                go_meet
                case rel => exact ⟨_, ((a0_0 == 7)), (by first | rfl | (simp; done) | (simp [*]; done)), H', ⟨by have := HJ1.out; first | omega | exact Nat.le_refl _⟩, ⟨by (with_reducible repeat (first | refine blk_drewN ?_ _ | refine blk_drew ?_ | refine blk_alloc ?_ _)); exact BK127.out⟩, ⟨by repeat (first | (with_reducible first | exact HB.out | apply below_alloc | apply pw_below_drewN | apply below_drew1 | refine below_set ?_ GE127.out) | exact HB.out)⟩⟩
        case rest =>
          clear HC13
          try clear c1
          try clear p2
          try clear c4
          try clear c4b0
          try clear c6
          try clear c7
          try clear c7b0
          try clear c7b1
          try clear c8
          try clear c9
          try clear c9b0
          try clear c9b1
          try clear c15
          try clear c15b0
          try clear c15b1
          try clear c16
          try clear c16b0
          try clear c16b1
          try clear c17
          try clear c17b0
          try clear c17b1
          try clear hcz10_0
          try clear hcz10_1
          try clear hcz10_2
          try clear hcz10_3
          try clear hcz10_4
          try clear hcz11_0
          try clear hcz11_1
          try clear hcz11_2
          try clear hcz11_3
          try clear hcz11_4
          try clear hcz12_0
          try clear hcz12_1
          try clear hcz12_2
          try clear hcz12_3
          try clear hcz12_4
          try clear hcz14_0
          try clear hcz14_1
          try clear hcz14_2
          try clear hcz14_3
          try clear hcz14_4
          try clear hcz5_0
          try clear hcz5_1
          try clear hcz5_2
          try clear hcz5_3
          try clear hcz5_4
          try clear hcz6_0
          try clear hcz6_1
          try clear hcz6_2
          try clear hcz6_3
          try clear hcz6_4
          try clear hfz10_0
          try clear hfz10_1
          try clear hfz10_2
          try clear hfz10_3
          try clear hfz10_4
          try clear hfz11_0
          try clear hfz11_1
          try clear hfz11_2
          try clear hfz11_3
          try clear hfz11_4
          try clear hfz12_0
          try clear hfz12_1
          try clear hfz12_2
          try clear hfz12_3
          try clear hfz12_4
          try clear hfz14_0
          try clear hfz14_1
          try clear hfz14_2
          try clear hfz14_3
          try clear hfz14_4
          try clear hfz5_0
          try clear hfz5_1
          try clear hfz5_2
          try clear hfz5_3
          try clear hfz5_4
          try clear hfz6_0
          try clear hfz6_1
          try clear hfz6_2
          try clear hfz6_3
          try clear hfz6_4
          try clear p2
          obtain ⟨kq, x27_12, rfl, HA, HJ12, BK127, HB⟩ := hcut
          cases kq with
          | zero => exact absurd HA.out (by simp [rampartref03_Is.j1])
          | succ kj12 =>
            have H := HA.out
            clear HA
            simp only [rampartref03_Is.j1] at H
            by_cases c18 : x27_12 = true
            · subst c18
              have H1 : (if a0_1 = 0 then (if a0_2 = 0 then (some (a0_4 == 0)) else (some false)) else (some false)) = some r := by rw [if_pos rfl] at H; exact H
              clear H
              have H := H1
              clear H1
              by_cases c19 : a0_1 = 0
              · rw [if_pos c19] at H
                have c19b0 : (a0_1 == 0) = true := beq_iff_eq.mpr c19
                have c19b1 : (a0_1 != 0) = false := bne_eq_false_iff_eq.mpr c19
                clear c19
                by_cases c20 : a0_2 = 0
                · rw [if_pos c20] at H
                  have c20b0 : (a0_2 == 0) = true := beq_iff_eq.mpr c20
                  have c20b1 : (a0_2 != 0) = false := bne_eq_false_iff_eq.mpr c20
                  clear c20
                  obtain rfl := Option.some.inj H
                  have hcz21_0 : wc.cell? ⟨gb127, 0, none⟩ = some (.int .u8 a0_0) := (blk_cell BK127.out 0).trans rfl
                  have hcz21_1 : wc.cell? ⟨gb127, 1, none⟩ = some (.int .u8 a0_1) := (blk_cell BK127.out 1).trans rfl
                  have hcz21_2 : wc.cell? ⟨gb127, 2, none⟩ = some (.int .u8 a0_2) := (blk_cell BK127.out 2).trans rfl
                  have hcz21_3 : wc.cell? ⟨gb127, 3, none⟩ = some (.int .u32 a0_3) := (blk_cell BK127.out 3).trans rfl
                  have hcz21_4 : wc.cell? ⟨gb127, 4, none⟩ = some (.int .u64 a0_4) := (blk_cell BK127.out 4).trans rfl
                  have hfz21_0 := blk_frozen BK127.out 0
                  have hfz21_1 := blk_frozen BK127.out 1
                  have hfz21_2 := blk_frozen BK127.out 2
                  have hfz21_3 := blk_frozen BK127.out 3
                  have hfz21_4 := blk_frozen BK127.out 4
                  go_wp2
                  go_ret
                  exact ⟨by first | rfl | (simp [errW_none, errW_some] <;> rfl) | (simp [*, errW_none, errW_some] <;> rfl), by repeat (first | (with_reducible first | exact HB.out | apply below_alloc | apply pw_below_drewN | apply below_drew1 | refine below_set ?_ GE127.out) | exact HB.out)⟩
                · rw [if_neg c20] at H
                  have c20b0 : (a0_2 == 0) = false := beq_eq_false_iff_ne.mpr c20
                  have c20b1 : (a0_2 != 0) = true := bne_iff_ne.mpr c20
                  obtain rfl := Option.some.inj H
                  have hcz22_0 : wc.cell? ⟨gb127, 0, none⟩ = some (.int .u8 a0_0) := (blk_cell BK127.out 0).trans rfl
                  have hcz22_1 : wc.cell? ⟨gb127, 1, none⟩ = some (.int .u8 a0_1) := (blk_cell BK127.out 1).trans rfl
                  have hcz22_2 : wc.cell? ⟨gb127, 2, none⟩ = some (.int .u8 a0_2) := (blk_cell BK127.out 2).trans rfl
                  have hcz22_3 : wc.cell? ⟨gb127, 3, none⟩ = some (.int .u32 a0_3) := (blk_cell BK127.out 3).trans rfl
                  have hcz22_4 : wc.cell? ⟨gb127, 4, none⟩ = some (.int .u64 a0_4) := (blk_cell BK127.out 4).trans rfl
                  have hfz22_0 := blk_frozen BK127.out 0
                  have hfz22_1 := blk_frozen BK127.out 1
                  have hfz22_2 := blk_frozen BK127.out 2
                  have hfz22_3 := blk_frozen BK127.out 3
                  have hfz22_4 := blk_frozen BK127.out 4
                  go_wp2
                  go_ret
                  exact ⟨by first | rfl | (simp [errW_none, errW_some] <;> rfl) | (simp [*, errW_none, errW_some] <;> rfl), by repeat (first | (with_reducible first | exact HB.out | apply below_alloc | apply pw_below_drewN | apply below_drew1 | refine below_set ?_ GE127.out) | exact HB.out)⟩
              · rw [if_neg c19] at H
                have c19b0 : (a0_1 == 0) = false := beq_eq_false_iff_ne.mpr c19
                have c19b1 : (a0_1 != 0) = true := bne_iff_ne.mpr c19
                obtain rfl := Option.some.inj H
                have hcz23_0 : wc.cell? ⟨gb127, 0, none⟩ = some (.int .u8 a0_0) := (blk_cell BK127.out 0).trans rfl
                have hcz23_1 : wc.cell? ⟨gb127, 1, none⟩ = some (.int .u8 a0_1) := (blk_cell BK127.out 1).trans rfl
                have hcz23_2 : wc.cell? ⟨gb127, 2, none⟩ = some (.int .u8 a0_2) := (blk_cell BK127.out 2).trans rfl
                have hcz23_3 : wc.cell? ⟨gb127, 3, none⟩ = some (.int .u32 a0_3) := (blk_cell BK127.out 3).trans rfl
                have hcz23_4 : wc.cell? ⟨gb127, 4, none⟩ = some (.int .u64 a0_4) := (blk_cell BK127.out 4).trans rfl
                have hfz23_0 := blk_frozen BK127.out 0
                have hfz23_1 := blk_frozen BK127.out 1
                have hfz23_2 := blk_frozen BK127.out 2
                have hfz23_3 := blk_frozen BK127.out 3
                have hfz23_4 := blk_frozen BK127.out 4
                go_wp2
                go_ret
                exact ⟨by first | rfl | (simp [errW_none, errW_some] <;> rfl) | (simp [*, errW_none, errW_some] <;> rfl), by repeat (first | (with_reducible first | exact HB.out | apply below_alloc | apply pw_below_drewN | apply below_drew1 | refine below_set ?_ GE127.out) | exact HB.out)⟩
            · replace c18 := Bool.eq_false_iff.mpr c18
              subst c18
              have H1 : (if a0_0 = 3 then (if a0_1 = 0 then (some (a0_2 == 0)) else (some false)) else (if a0_0 = 5 then (if x3_1 = true then (some (a0_4 == 0)) else (some false)) else (if a0_0 = 8 then (if a0_2 = 0 then (some (a0_3 == 0)) else (some false)) else (if a0_0 = 9 then (if a0_1 = 0 then (if a0_2 = 0 then (if a0_3 = 0 then (some (a0_4 == 0)) else (some false)) else (some false)) else (some false)) else (some false))))) = some r := by rw [if_neg (show ¬ (false = true) by decide)] at H; exact H
              clear H
              have H := H1
              clear H1
              by_cases c24 : a0_0 = 3
              · rw [if_pos c24] at H
                have c24b0 : (a0_0 == 3) = true := beq_iff_eq.mpr c24
                have c24b1 : (a0_0 != 3) = false := bne_eq_false_iff_eq.mpr c24
                clear c24
                by_cases c25 : a0_1 = 0
                · rw [if_pos c25] at H
                  have c25b0 : (a0_1 == 0) = true := beq_iff_eq.mpr c25
                  have c25b1 : (a0_1 != 0) = false := bne_eq_false_iff_eq.mpr c25
                  clear c25
                  obtain rfl := Option.some.inj H
                  have hcz26_0 : wc.cell? ⟨gb127, 0, none⟩ = some (.int .u8 a0_0) := (blk_cell BK127.out 0).trans rfl
                  have hcz26_1 : wc.cell? ⟨gb127, 1, none⟩ = some (.int .u8 a0_1) := (blk_cell BK127.out 1).trans rfl
                  have hcz26_2 : wc.cell? ⟨gb127, 2, none⟩ = some (.int .u8 a0_2) := (blk_cell BK127.out 2).trans rfl
                  have hcz26_3 : wc.cell? ⟨gb127, 3, none⟩ = some (.int .u32 a0_3) := (blk_cell BK127.out 3).trans rfl
                  have hcz26_4 : wc.cell? ⟨gb127, 4, none⟩ = some (.int .u64 a0_4) := (blk_cell BK127.out 4).trans rfl
                  have hfz26_0 := blk_frozen BK127.out 0
                  have hfz26_1 := blk_frozen BK127.out 1
                  have hfz26_2 := blk_frozen BK127.out 2
                  have hfz26_3 := blk_frozen BK127.out 3
                  have hfz26_4 := blk_frozen BK127.out 4
                  go_wp2
                  go_ret
                  exact ⟨by first | rfl | (simp [errW_none, errW_some] <;> rfl) | (simp [*, errW_none, errW_some] <;> rfl), by repeat (first | (with_reducible first | exact HB.out | apply below_alloc | apply pw_below_drewN | apply below_drew1 | refine below_set ?_ GE127.out) | exact HB.out)⟩
                · rw [if_neg c25] at H
                  have c25b0 : (a0_1 == 0) = false := beq_eq_false_iff_ne.mpr c25
                  have c25b1 : (a0_1 != 0) = true := bne_iff_ne.mpr c25
                  obtain rfl := Option.some.inj H
                  have hcz27_0 : wc.cell? ⟨gb127, 0, none⟩ = some (.int .u8 a0_0) := (blk_cell BK127.out 0).trans rfl
                  have hcz27_1 : wc.cell? ⟨gb127, 1, none⟩ = some (.int .u8 a0_1) := (blk_cell BK127.out 1).trans rfl
                  have hcz27_2 : wc.cell? ⟨gb127, 2, none⟩ = some (.int .u8 a0_2) := (blk_cell BK127.out 2).trans rfl
                  have hcz27_3 : wc.cell? ⟨gb127, 3, none⟩ = some (.int .u32 a0_3) := (blk_cell BK127.out 3).trans rfl
                  have hcz27_4 : wc.cell? ⟨gb127, 4, none⟩ = some (.int .u64 a0_4) := (blk_cell BK127.out 4).trans rfl
                  have hfz27_0 := blk_frozen BK127.out 0
                  have hfz27_1 := blk_frozen BK127.out 1
                  have hfz27_2 := blk_frozen BK127.out 2
                  have hfz27_3 := blk_frozen BK127.out 3
                  have hfz27_4 := blk_frozen BK127.out 4
                  go_wp2
                  go_ret
                  exact ⟨by first | rfl | (simp [errW_none, errW_some] <;> rfl) | (simp [*, errW_none, errW_some] <;> rfl), by repeat (first | (with_reducible first | exact HB.out | apply below_alloc | apply pw_below_drewN | apply below_drew1 | refine below_set ?_ GE127.out) | exact HB.out)⟩
              · rw [if_neg c24] at H
                have c24b0 : (a0_0 == 3) = false := beq_eq_false_iff_ne.mpr c24
                have c24b1 : (a0_0 != 3) = true := bne_iff_ne.mpr c24
                by_cases c28 : a0_0 = 5
                · rw [if_pos c28] at H
                  have c28b0 : (a0_0 == 5) = true := beq_iff_eq.mpr c28
                  have c28b1 : (a0_0 != 5) = false := bne_eq_false_iff_eq.mpr c28
                  clear c28
                  by_cases c29 : x3_1 = true
                  · subst c29
                    have H1 : (some (a0_4 == 0)) = some r := by rw [if_pos rfl] at H; exact H
                    clear H
                    have H := H1
                    clear H1
                    obtain rfl := Option.some.inj H
                    have hcz30_0 : wc.cell? ⟨gb127, 0, none⟩ = some (.int .u8 a0_0) := (blk_cell BK127.out 0).trans rfl
                    have hcz30_1 : wc.cell? ⟨gb127, 1, none⟩ = some (.int .u8 a0_1) := (blk_cell BK127.out 1).trans rfl
                    have hcz30_2 : wc.cell? ⟨gb127, 2, none⟩ = some (.int .u8 a0_2) := (blk_cell BK127.out 2).trans rfl
                    have hcz30_3 : wc.cell? ⟨gb127, 3, none⟩ = some (.int .u32 a0_3) := (blk_cell BK127.out 3).trans rfl
                    have hcz30_4 : wc.cell? ⟨gb127, 4, none⟩ = some (.int .u64 a0_4) := (blk_cell BK127.out 4).trans rfl
                    have hfz30_0 := blk_frozen BK127.out 0
                    have hfz30_1 := blk_frozen BK127.out 1
                    have hfz30_2 := blk_frozen BK127.out 2
                    have hfz30_3 := blk_frozen BK127.out 3
                    have hfz30_4 := blk_frozen BK127.out 4
                    go_wp2
                    go_ret
                    exact ⟨by first | rfl | (simp [errW_none, errW_some] <;> rfl) | (simp [*, errW_none, errW_some] <;> rfl), by repeat (first | (with_reducible first | exact HB.out | apply below_alloc | apply pw_below_drewN | apply below_drew1 | refine below_set ?_ GE127.out) | exact HB.out)⟩
                  · replace c29 := Bool.eq_false_iff.mpr c29
                    subst c29
                    have H1 : (some false) = some r := by rw [if_neg (show ¬ (false = true) by decide)] at H; exact H
                    clear H
                    have H := H1
                    clear H1
                    obtain rfl := Option.some.inj H
                    go_wp2
                    go_ret
                    exact ⟨by first | rfl | (simp [errW_none, errW_some] <;> rfl) | (simp [*, errW_none, errW_some] <;> rfl), by repeat (first | (with_reducible first | exact HB.out | apply below_alloc | apply pw_below_drewN | apply below_drew1 | refine below_set ?_ GE127.out) | exact HB.out)⟩
                · rw [if_neg c28] at H
                  have c28b0 : (a0_0 == 5) = false := beq_eq_false_iff_ne.mpr c28
                  have c28b1 : (a0_0 != 5) = true := bne_iff_ne.mpr c28
                  by_cases c31 : a0_0 = 8
                  · rw [if_pos c31] at H
                    have c31b0 : (a0_0 == 8) = true := beq_iff_eq.mpr c31
                    have c31b1 : (a0_0 != 8) = false := bne_eq_false_iff_eq.mpr c31
                    clear c31
                    by_cases c32 : a0_2 = 0
                    · rw [if_pos c32] at H
                      have c32b0 : (a0_2 == 0) = true := beq_iff_eq.mpr c32
                      have c32b1 : (a0_2 != 0) = false := bne_eq_false_iff_eq.mpr c32
                      clear c32
                      obtain rfl := Option.some.inj H
                      have hcz33_0 : wc.cell? ⟨gb127, 0, none⟩ = some (.int .u8 a0_0) := (blk_cell BK127.out 0).trans rfl
                      have hcz33_1 : wc.cell? ⟨gb127, 1, none⟩ = some (.int .u8 a0_1) := (blk_cell BK127.out 1).trans rfl
                      have hcz33_2 : wc.cell? ⟨gb127, 2, none⟩ = some (.int .u8 a0_2) := (blk_cell BK127.out 2).trans rfl
                      have hcz33_3 : wc.cell? ⟨gb127, 3, none⟩ = some (.int .u32 a0_3) := (blk_cell BK127.out 3).trans rfl
                      have hcz33_4 : wc.cell? ⟨gb127, 4, none⟩ = some (.int .u64 a0_4) := (blk_cell BK127.out 4).trans rfl
                      have hfz33_0 := blk_frozen BK127.out 0
                      have hfz33_1 := blk_frozen BK127.out 1
                      have hfz33_2 := blk_frozen BK127.out 2
                      have hfz33_3 := blk_frozen BK127.out 3
                      have hfz33_4 := blk_frozen BK127.out 4
                      go_wp2
                      go_ret
                      exact ⟨by first | rfl | (simp [errW_none, errW_some] <;> rfl) | (simp [*, errW_none, errW_some] <;> rfl), by repeat (first | (with_reducible first | exact HB.out | apply below_alloc | apply pw_below_drewN | apply below_drew1 | refine below_set ?_ GE127.out) | exact HB.out)⟩
                    · rw [if_neg c32] at H
                      have c32b0 : (a0_2 == 0) = false := beq_eq_false_iff_ne.mpr c32
                      have c32b1 : (a0_2 != 0) = true := bne_iff_ne.mpr c32
                      obtain rfl := Option.some.inj H
                      have hcz34_0 : wc.cell? ⟨gb127, 0, none⟩ = some (.int .u8 a0_0) := (blk_cell BK127.out 0).trans rfl
                      have hcz34_1 : wc.cell? ⟨gb127, 1, none⟩ = some (.int .u8 a0_1) := (blk_cell BK127.out 1).trans rfl
                      have hcz34_2 : wc.cell? ⟨gb127, 2, none⟩ = some (.int .u8 a0_2) := (blk_cell BK127.out 2).trans rfl
                      have hcz34_3 : wc.cell? ⟨gb127, 3, none⟩ = some (.int .u32 a0_3) := (blk_cell BK127.out 3).trans rfl
                      have hcz34_4 : wc.cell? ⟨gb127, 4, none⟩ = some (.int .u64 a0_4) := (blk_cell BK127.out 4).trans rfl
                      have hfz34_0 := blk_frozen BK127.out 0
                      have hfz34_1 := blk_frozen BK127.out 1
                      have hfz34_2 := blk_frozen BK127.out 2
                      have hfz34_3 := blk_frozen BK127.out 3
                      have hfz34_4 := blk_frozen BK127.out 4
                      go_wp2
                      go_ret
                      exact ⟨by first | rfl | (simp [errW_none, errW_some] <;> rfl) | (simp [*, errW_none, errW_some] <;> rfl), by repeat (first | (with_reducible first | exact HB.out | apply below_alloc | apply pw_below_drewN | apply below_drew1 | refine below_set ?_ GE127.out) | exact HB.out)⟩
                  · rw [if_neg c31] at H
                    have c31b0 : (a0_0 == 8) = false := beq_eq_false_iff_ne.mpr c31
                    have c31b1 : (a0_0 != 8) = true := bne_iff_ne.mpr c31
                    by_cases c35 : a0_0 = 9
                    · rw [if_pos c35] at H
                      have c35b0 : (a0_0 == 9) = true := beq_iff_eq.mpr c35
                      have c35b1 : (a0_0 != 9) = false := bne_eq_false_iff_eq.mpr c35
                      clear c35
                      by_cases c36 : a0_1 = 0
                      · rw [if_pos c36] at H
                        have c36b0 : (a0_1 == 0) = true := beq_iff_eq.mpr c36
                        have c36b1 : (a0_1 != 0) = false := bne_eq_false_iff_eq.mpr c36
                        clear c36
                        by_cases c37 : a0_2 = 0
                        · rw [if_pos c37] at H
                          have c37b0 : (a0_2 == 0) = true := beq_iff_eq.mpr c37
                          have c37b1 : (a0_2 != 0) = false := bne_eq_false_iff_eq.mpr c37
                          clear c37
                          by_cases c38 : a0_3 = 0
                          · rw [if_pos c38] at H
                            have c38b0 : (a0_3 == 0) = true := beq_iff_eq.mpr c38
                            have c38b1 : (a0_3 != 0) = false := bne_eq_false_iff_eq.mpr c38
                            clear c38
                            obtain rfl := Option.some.inj H
                            have hcz39_0 : wc.cell? ⟨gb127, 0, none⟩ = some (.int .u8 a0_0) := (blk_cell BK127.out 0).trans rfl
                            have hcz39_1 : wc.cell? ⟨gb127, 1, none⟩ = some (.int .u8 a0_1) := (blk_cell BK127.out 1).trans rfl
                            have hcz39_2 : wc.cell? ⟨gb127, 2, none⟩ = some (.int .u8 a0_2) := (blk_cell BK127.out 2).trans rfl
                            have hcz39_3 : wc.cell? ⟨gb127, 3, none⟩ = some (.int .u32 a0_3) := (blk_cell BK127.out 3).trans rfl
                            have hcz39_4 : wc.cell? ⟨gb127, 4, none⟩ = some (.int .u64 a0_4) := (blk_cell BK127.out 4).trans rfl
                            have hfz39_0 := blk_frozen BK127.out 0
                            have hfz39_1 := blk_frozen BK127.out 1
                            have hfz39_2 := blk_frozen BK127.out 2
                            have hfz39_3 := blk_frozen BK127.out 3
                            have hfz39_4 := blk_frozen BK127.out 4
                            go_wp2
                            go_ret
                            exact ⟨by first | rfl | (simp [errW_none, errW_some] <;> rfl) | (simp [*, errW_none, errW_some] <;> rfl), by repeat (first | (with_reducible first | exact HB.out | apply below_alloc | apply pw_below_drewN | apply below_drew1 | refine below_set ?_ GE127.out) | exact HB.out)⟩
                          · rw [if_neg c38] at H
                            have c38b0 : (a0_3 == 0) = false := beq_eq_false_iff_ne.mpr c38
                            have c38b1 : (a0_3 != 0) = true := bne_iff_ne.mpr c38
                            obtain rfl := Option.some.inj H
                            have hcz40_0 : wc.cell? ⟨gb127, 0, none⟩ = some (.int .u8 a0_0) := (blk_cell BK127.out 0).trans rfl
                            have hcz40_1 : wc.cell? ⟨gb127, 1, none⟩ = some (.int .u8 a0_1) := (blk_cell BK127.out 1).trans rfl
                            have hcz40_2 : wc.cell? ⟨gb127, 2, none⟩ = some (.int .u8 a0_2) := (blk_cell BK127.out 2).trans rfl
                            have hcz40_3 : wc.cell? ⟨gb127, 3, none⟩ = some (.int .u32 a0_3) := (blk_cell BK127.out 3).trans rfl
                            have hcz40_4 : wc.cell? ⟨gb127, 4, none⟩ = some (.int .u64 a0_4) := (blk_cell BK127.out 4).trans rfl
                            have hfz40_0 := blk_frozen BK127.out 0
                            have hfz40_1 := blk_frozen BK127.out 1
                            have hfz40_2 := blk_frozen BK127.out 2
                            have hfz40_3 := blk_frozen BK127.out 3
                            have hfz40_4 := blk_frozen BK127.out 4
                            go_wp2
                            go_ret
                            exact ⟨by first | rfl | (simp [errW_none, errW_some] <;> rfl) | (simp [*, errW_none, errW_some] <;> rfl), by repeat (first | (with_reducible first | exact HB.out | apply below_alloc | apply pw_below_drewN | apply below_drew1 | refine below_set ?_ GE127.out) | exact HB.out)⟩
                        · rw [if_neg c37] at H
                          have c37b0 : (a0_2 == 0) = false := beq_eq_false_iff_ne.mpr c37
                          have c37b1 : (a0_2 != 0) = true := bne_iff_ne.mpr c37
                          obtain rfl := Option.some.inj H
                          have hcz41_0 : wc.cell? ⟨gb127, 0, none⟩ = some (.int .u8 a0_0) := (blk_cell BK127.out 0).trans rfl
                          have hcz41_1 : wc.cell? ⟨gb127, 1, none⟩ = some (.int .u8 a0_1) := (blk_cell BK127.out 1).trans rfl
                          have hcz41_2 : wc.cell? ⟨gb127, 2, none⟩ = some (.int .u8 a0_2) := (blk_cell BK127.out 2).trans rfl
                          have hcz41_3 : wc.cell? ⟨gb127, 3, none⟩ = some (.int .u32 a0_3) := (blk_cell BK127.out 3).trans rfl
                          have hcz41_4 : wc.cell? ⟨gb127, 4, none⟩ = some (.int .u64 a0_4) := (blk_cell BK127.out 4).trans rfl
                          have hfz41_0 := blk_frozen BK127.out 0
                          have hfz41_1 := blk_frozen BK127.out 1
                          have hfz41_2 := blk_frozen BK127.out 2
                          have hfz41_3 := blk_frozen BK127.out 3
                          have hfz41_4 := blk_frozen BK127.out 4
                          go_wp2
                          go_ret
                          exact ⟨by first | rfl | (simp [errW_none, errW_some] <;> rfl) | (simp [*, errW_none, errW_some] <;> rfl), by repeat (first | (with_reducible first | exact HB.out | apply below_alloc | apply pw_below_drewN | apply below_drew1 | refine below_set ?_ GE127.out) | exact HB.out)⟩
                      · rw [if_neg c36] at H
                        have c36b0 : (a0_1 == 0) = false := beq_eq_false_iff_ne.mpr c36
                        have c36b1 : (a0_1 != 0) = true := bne_iff_ne.mpr c36
                        obtain rfl := Option.some.inj H
                        have hcz42_0 : wc.cell? ⟨gb127, 0, none⟩ = some (.int .u8 a0_0) := (blk_cell BK127.out 0).trans rfl
                        have hcz42_1 : wc.cell? ⟨gb127, 1, none⟩ = some (.int .u8 a0_1) := (blk_cell BK127.out 1).trans rfl
                        have hcz42_2 : wc.cell? ⟨gb127, 2, none⟩ = some (.int .u8 a0_2) := (blk_cell BK127.out 2).trans rfl
                        have hcz42_3 : wc.cell? ⟨gb127, 3, none⟩ = some (.int .u32 a0_3) := (blk_cell BK127.out 3).trans rfl
                        have hcz42_4 : wc.cell? ⟨gb127, 4, none⟩ = some (.int .u64 a0_4) := (blk_cell BK127.out 4).trans rfl
                        have hfz42_0 := blk_frozen BK127.out 0
                        have hfz42_1 := blk_frozen BK127.out 1
                        have hfz42_2 := blk_frozen BK127.out 2
                        have hfz42_3 := blk_frozen BK127.out 3
                        have hfz42_4 := blk_frozen BK127.out 4
                        go_wp2
                        go_ret
                        exact ⟨by first | rfl | (simp [errW_none, errW_some] <;> rfl) | (simp [*, errW_none, errW_some] <;> rfl), by repeat (first | (with_reducible first | exact HB.out | apply below_alloc | apply pw_below_drewN | apply below_drew1 | refine below_set ?_ GE127.out) | exact HB.out)⟩
                    · rw [if_neg c35] at H
                      have c35b0 : (a0_0 == 9) = false := beq_eq_false_iff_ne.mpr c35
                      have c35b1 : (a0_0 != 9) = true := bne_iff_ne.mpr c35
                      obtain rfl := Option.some.inj H
                      go_wp2
                      go_ret
                      exact ⟨by first | rfl | (simp [errW_none, errW_some] <;> rfl) | (simp [*, errW_none, errW_some] <;> rfl), by repeat (first | (with_reducible first | exact HB.out | apply below_alloc | apply pw_below_drewN | apply below_drew1 | refine below_set ?_ GE127.out) | exact HB.out)⟩

end Go.Proofs.YtoliipbmcekciaaDoor.QDc
