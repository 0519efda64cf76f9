/- Functions that several claims of this seat share: Lean lines written by a program out of the loaded program's print. -/
import Derived.Test.YtoliipbmcekciaaDoorQDcx0
namespace Go.Proofs.YtoliipbmcekciaaDoor.QDc
open Go.RowKit Go.Proofs.YtoliipbmcekciaaDoorW.PrintWords Go.Proofs.YtoliipbmcekciaaDoorW.PrintLast Go.Proofs.YtoliipbmcekciaaDoorW.PrintMore
attribute [local go_sem] max2_int min2_int max_two min_two max_three min_three max_four min_four   -- for this text's walks alone
set_option linter.unusedVariables false
set_option linter.unusedSimpArgs false

/-! ### wire_named: function 106 -/
def wire_named.j0 : Nat → Bool → Int → Bool → Int → Int → Int → Int → Int → Int → Int → Int → Int → Int → Option (Int × Int × Int × Int × Int × Bool)
  | 0, _, _, _, _, _, _, _, _, _, _, _, _, _ => none
  | k + 1, x5, x10, x17, x182000, x182001, x182002, x182003, x182004, x184000, x184001, x184002, x184003, x184004 => if x17 = true then (some (x184000, x184001, x184002, x182003, x184004, x5)) else (if x10 = 8 then (some (x184000, x182001, x184002, x184003, x182004, x5)) else (if x10 = 9 then (some (x184000, x184001, x184002, x184003, x184004, x5)) else (some (x184000, x184001, x184002, x184003, x184004, false))))
def wire_named.f (k : Nat) (a0_0 : Int) (a0_1 : Int) (a0_2 : Int) (a0_3 : Int) (a0_4 : Int) : Option (Int × Int × Int × Int × Int × Bool) := if a0_0 = 5 then (if a0_2 ≥ 1 then (some (a0_0, a0_1, a0_2, a0_3, 0, decide (a0_2 ≤ 7))) else (some (a0_0, a0_1, a0_2, a0_3, 0, false))) else (if a0_0 = 1 then (if a0_2 ≥ 1 then (some (a0_0, a0_1, a0_2, 0, 0, decide (a0_2 ≤ 7))) else (some (a0_0, a0_1, a0_2, 0, 0, false))) else (if a0_0 = 3 then (some (a0_0, 0, 0, a0_3, a0_4, true)) else (if a0_0 = 2 then (wire_named.j0 k true a0_0 (a0_0 == 2) a0_0 a0_1 a0_2 a0_3 a0_4 a0_0 0 0 0 0) else (if a0_0 = 4 then (wire_named.j0 k true a0_0 (a0_0 == 4) a0_0 a0_1 a0_2 a0_3 a0_4 a0_0 0 0 0 0) else (if a0_0 = 6 then (wire_named.j0 k true a0_0 (a0_0 == 6) a0_0 a0_1 a0_2 a0_3 a0_4 a0_0 0 0 0 0) else (wire_named.j0 k true a0_0 (a0_0 == 7) a0_0 a0_1 a0_2 a0_3 a0_4 a0_0 0 0 0 0))))))
theorem wire_named.mono_l : ∀ k, (∀ y0 y1 y2 y3 y4 y5 y6 y7 y8 y9 y10 y11 y12, LeO (wire_named.j0 k y0 y1 y2 y3 y4 y5 y6 y7 y8 y9 y10 y11 y12) (wire_named.j0 (k + 1) y0 y1 y2 y3 y4 y5 y6 y7 y8 y9 y10 y11 y12))
  | 0 => fun _ _ _ _ _ _ _ _ _ _ _ _ _ r h => by simp [wire_named.j0] at h
  | k + 1 => by
    have ih0 := wire_named.mono_l k
    · intro y0 y1 y2 y3 y4 y5 y6 y7 y8 y9 y10 y11 y12
      unfold wire_named.j0
      repeat' first
      | (with_reducible exact ih0 _ _ _ _ _ _ _ _ _ _ _ _ _)
      | (with_reducible exact LeO.refl _)
      | (with_reducible exact LeO.none _)
      | (with_reducible refine LeO.ite ?_ ?_)
      | (with_reducible refine LeO.bind ?_ (fun _ => ?_))
      | exact ih0 _ _ _ _ _ _ _ _ _ _ _ _ _
      | exact LeO.none _
      | refine LeO.ite ?_ ?_
      | refine LeO.bind ?_ (fun _ => ?_)
theorem wire_named.mono : ∀ a0 a1 a2 a3 a4 k, LeO (wire_named.f k a0 a1 a2 a3 a4) (wire_named.f (k + 1) a0 a1 a2 a3 a4) := by
  intro a0 a1 a2 a3 a4 k
  have ih0 := wire_named.mono_l k
  unfold wire_named.f
  repeat' first
      | (with_reducible exact ih0 _ _ _ _ _ _ _ _ _ _ _ _ _)
      | (with_reducible exact LeO.refl _)
      | (with_reducible exact LeO.none _)
      | (with_reducible refine LeO.ite ?_ ?_)
      | (with_reducible refine LeO.bind ?_ (fun _ => ?_))
      | exact ih0 _ _ _ _ _ _ _ _ _ _ _ _ _
      | exact LeO.none _
      | refine LeO.ite ?_ ?_
      | refine LeO.bind ?_ (fun _ => ?_)
def wire_named.T14 : Bool × List (List Nat × List Nat) := (true, [([], []), ([0], [0]), ([], []), ([2], [2]), ([0, 1], []), ([4, 1, 0, 1], [1, 4]), ([0, 1, 2, 3, 4, 5], []), ([6, 3, 5, 0, 1, 2, 3, 4, 5], [3, 6])])
def wire_named.B14 : List Nat := [0, 1, 0, 4, 3, 19, 63, 127]
theorem wire_named.tab14 : rtab .any (opsOf Tryd.f106 14) = wire_named.T14 := by kernel_rfl
theorem wire_named.bits14 : waitsOk wire_named.T14.2 wire_named.B14 = true := by kernel_rfl
def wire_named.T18 : Bool × List (List Nat × List Nat) := (true, [([], []), ([0], [0]), ([], []), ([2], [2]), ([0, 1], []), ([4, 1, 0, 1], [1, 4]), ([0, 1, 2, 3, 4, 5], []), ([6, 3, 5, 0, 1, 2, 3, 4, 5], [3, 6])])
def wire_named.B18 : List Nat := [0, 1, 0, 4, 3, 19, 63, 127]
theorem wire_named.tab18 : rtab .any (opsOf Tryd.f106 18) = wire_named.T18 := by kernel_rfl
theorem wire_named.bits18 : waitsOk wire_named.T18.2 wire_named.B18 = true := by kernel_rfl
set_option maxHeartbeats 8000000 in
set_option maxRecDepth 100000 in
theorem wire_named.calls (k : Nat) (a0_0 : Int) (a0_1 : Int) (a0_2 : Int) (a0_3 : Int) (a0_4 : Int) (r1 : Int) (r2 : Int) (r3 : Int) (r4 : Int) (r5 : Int) (r6 : Bool) (w : World) (h : wire_named.f k a0_0 a0_1 a0_2 a0_3 a0_4 = some (r1, r2, r3, r4, r5, r6)) :
    Calls Tryd.prog 106 #[.agg #[.int .u8 a0_0, .int .u8 a0_1, .int .u8 a0_2, .int .u32 a0_3, .int .u64 a0_4]] w fun e w' => e = .returned (.tuple #[.agg #[.int .u8 r1, .int .u8 r2, .int .u8 r3, .int .u32 r4, .int .u64 r5], .bool r6]) ∧ Below w.heap.size w w' := by
  by_cases c5 : a0_0 = 5
  · subst c5
    by_cases h1 : a0_2 ≥ 1
    · by_cases h7 : a0_2 ≤ 7
      · simp [wire_named.f, h1, h7] at h
        obtain ⟨rfl, rfl, rfl, rfl, rfl, rfl⟩ := h
        go_enter Tryd.func106, Tryd.ntmps106
        go_wp2
        go_region
        go_wp2
        (try simp only [Exit.inBlock, Exit.then])
        refine bodyPost_ret (by simp [results, Tryd.results106, go_sem]; try rfl) rfl ?_
        refine ⟨by first | rfl | simp [*], ?_⟩
        repeat (first | exact Below.refl _ _ | apply below_alloc | apply pw_below_drewN | apply below_drew1)
      · simp [wire_named.f, h1, h7] at h
        obtain ⟨rfl, rfl, rfl, rfl, rfl, rfl⟩ := h
        go_enter Tryd.func106, Tryd.ntmps106
        go_wp2
        go_region
        go_wp2
        (try simp only [Exit.inBlock, Exit.then])
        refine bodyPost_ret (by simp [results, Tryd.results106, go_sem]; try rfl) rfl ?_
        refine ⟨by first | rfl | simp [*], ?_⟩
        repeat (first | exact Below.refl _ _ | apply below_alloc | apply pw_below_drewN | apply below_drew1)
    · simp [wire_named.f, h1] at h
      obtain ⟨rfl, rfl, rfl, rfl, rfl, rfl⟩ := h
      go_enter Tryd.func106, Tryd.ntmps106
      go_wp2
      go_region
      go_wp2
      (try simp only [Exit.inBlock, Exit.then])
      refine bodyPost_ret (by simp [results, Tryd.results106, go_sem]; try rfl) rfl ?_
      refine ⟨by first | rfl | simp [*], ?_⟩
      repeat (first | exact Below.refl _ _ | apply below_alloc | apply pw_below_drewN | apply below_drew1)
  by_cases c1 : a0_0 = 1
  · subst c1
    by_cases h1 : a0_2 ≥ 1
    · by_cases h7 : a0_2 ≤ 7
      · simp [wire_named.f, h1, h7] at h
        obtain ⟨rfl, rfl, rfl, rfl, rfl, rfl⟩ := h
        go_enter Tryd.func106, Tryd.ntmps106
        go_wp2
        go_region
        go_wp2
        (try simp only [Exit.inBlock, Exit.then])
        refine bodyPost_ret (by simp [results, Tryd.results106, go_sem]; try rfl) rfl ?_
        refine ⟨by first | rfl | simp [*], ?_⟩
        repeat (first | exact Below.refl _ _ | apply below_alloc | apply pw_below_drewN | apply below_drew1)
      · simp [wire_named.f, h1, h7] at h
        obtain ⟨rfl, rfl, rfl, rfl, rfl, rfl⟩ := h
        go_enter Tryd.func106, Tryd.ntmps106
        go_wp2
        go_region
        go_wp2
        (try simp only [Exit.inBlock, Exit.then])
        refine bodyPost_ret (by simp [results, Tryd.results106, go_sem]; try rfl) rfl ?_
        refine ⟨by first | rfl | simp [*], ?_⟩
        repeat (first | exact Below.refl _ _ | apply below_alloc | apply pw_below_drewN | apply below_drew1)
    · simp [wire_named.f, h1] at h
      obtain ⟨rfl, rfl, rfl, rfl, rfl, rfl⟩ := h
      go_enter Tryd.func106, Tryd.ntmps106
      go_wp2
      go_region
      go_wp2
      (try simp only [Exit.inBlock, Exit.then])
      refine bodyPost_ret (by simp [results, Tryd.results106, go_sem]; try rfl) rfl ?_
      refine ⟨by first | rfl | simp [*], ?_⟩
      repeat (first | exact Below.refl _ _ | apply below_alloc | apply pw_below_drewN | apply below_drew1)
  by_cases c3 : a0_0 = 3
  · subst c3
    simp [wire_named.f] at h
    obtain ⟨rfl, rfl, rfl, rfl, rfl, rfl⟩ := h
    go_enter Tryd.func106, Tryd.ntmps106
    go_wp2
    (try simp only [Exit.inBlock, Exit.then])
    refine bodyPost_ret (by simp [results, Tryd.results106, go_sem]; try rfl) rfl ?_
    refine ⟨by first | rfl | simp [*], ?_⟩
    repeat (first | exact Below.refl _ _ | apply below_alloc | apply pw_below_drewN | apply below_drew1)
  by_cases c2 : a0_0 = 2
  · subst c2
    cases k with
    | zero => simp [wire_named.f, wire_named.j0] at h
    | succ k =>
      simp [wire_named.f, wire_named.j0] at h
      obtain ⟨rfl, rfl, rfl, rfl, rfl, rfl⟩ := h
      go_enter Tryd.func106, Tryd.ntmps106
      go_wp2
      (try simp only [Exit.inBlock, Exit.then])
      refine bodyPost_ret (by simp [results, Tryd.results106, go_sem]; try rfl) rfl ?_
      refine ⟨by first | rfl | simp [*], ?_⟩
      repeat (first | exact Below.refl _ _ | apply below_alloc | apply pw_below_drewN | apply below_drew1)
  by_cases c4 : a0_0 = 4
  · subst c4
    cases k with
    | zero => simp [wire_named.f, wire_named.j0] at h
    | succ k =>
      simp [wire_named.f, wire_named.j0] at h
      obtain ⟨rfl, rfl, rfl, rfl, rfl, rfl⟩ := h
      go_enter Tryd.func106, Tryd.ntmps106
      go_wp2
      (try simp only [Exit.inBlock, Exit.then])
      refine bodyPost_ret (by simp [results, Tryd.results106, go_sem]; try rfl) rfl ?_
      refine ⟨by first | rfl | simp [*], ?_⟩
      repeat (first | exact Below.refl _ _ | apply below_alloc | apply pw_below_drewN | apply below_drew1)
  by_cases c6 : a0_0 = 6
  · subst c6
    cases k with
    | zero => simp [wire_named.f, wire_named.j0] at h
    | succ k =>
      simp [wire_named.f, wire_named.j0] at h
      obtain ⟨rfl, rfl, rfl, rfl, rfl, rfl⟩ := h
      go_enter Tryd.func106, Tryd.ntmps106
      go_wp2
      (try simp only [Exit.inBlock, Exit.then])
      refine bodyPost_ret (by simp [results, Tryd.results106, go_sem]; try rfl) rfl ?_
      refine ⟨by first | rfl | simp [*], ?_⟩
      repeat (first | exact Below.refl _ _ | apply below_alloc | apply pw_below_drewN | apply below_drew1)
  by_cases c7 : a0_0 = 7
  · subst c7
    cases k with
    | zero => simp [wire_named.f, wire_named.j0] at h
    | succ k =>
      simp [wire_named.f, wire_named.j0] at h
      obtain ⟨rfl, rfl, rfl, rfl, rfl, rfl⟩ := h
      go_enter Tryd.func106, Tryd.ntmps106
      go_wp2
      (try simp only [Exit.inBlock, Exit.then])
      refine bodyPost_ret (by simp [results, Tryd.results106, go_sem]; try rfl) rfl ?_
      refine ⟨by first | rfl | simp [*], ?_⟩
      repeat (first | exact Below.refl _ _ | apply below_alloc | apply pw_below_drewN | apply below_drew1)
  by_cases c8 : a0_0 = 8
  · subst c8
    cases k with
    | zero => simp [wire_named.f, wire_named.j0] at h
    | succ k =>
      simp [wire_named.f, wire_named.j0] at h
      obtain ⟨rfl, rfl, rfl, rfl, rfl, rfl⟩ := h
      go_enter Tryd.func106, Tryd.ntmps106
      go_wp2
      go_region
      go_wp2
      (try simp only [Exit.inBlock, Exit.then])
      refine bodyPost_ret (by simp [results, Tryd.results106, go_sem]; try rfl) rfl ?_
      refine ⟨by first | rfl | simp [*], ?_⟩
      repeat (first | exact Below.refl _ _ | apply below_alloc | apply pw_below_drewN | apply below_drew1)
  by_cases c9 : a0_0 = 9
  · subst c9
    cases k with
    | zero => simp [wire_named.f, wire_named.j0] at h
    | succ k =>
      simp [wire_named.f, wire_named.j0] at h
      obtain ⟨rfl, rfl, rfl, rfl, rfl, rfl⟩ := h
      go_enter Tryd.func106, Tryd.ntmps106
      go_wp2
      (try simp only [Exit.inBlock, Exit.then])
      refine bodyPost_ret (by simp [results, Tryd.results106, go_sem]; try rfl) rfl ?_
      refine ⟨by first | rfl | simp [*], ?_⟩
      repeat (first | exact Below.refl _ _ | apply below_alloc | apply pw_below_drewN | apply below_drew1)
  cases k with
  | zero => simp [wire_named.f, wire_named.j0, c5, c1, c3, c2, c4, c6] at h
  | succ k =>
    simp [wire_named.f, wire_named.j0, c5, c1, c3, c2, c4, c6, c7, c8, c9] at h
    obtain ⟨rfl, rfl, rfl, rfl, rfl, rfl⟩ := h
    have d5 := decide_eq_false c5
    have d1 := decide_eq_false c1
    have d3 := decide_eq_false c3
    have d2 := decide_eq_false c2
    have d4 := decide_eq_false c4
    have d6 := decide_eq_false c6
    have d7 := decide_eq_false c7
    have d8 := decide_eq_false c8
    have d9 := decide_eq_false c9
    go_enter Tryd.func106, Tryd.ntmps106
    go_wp2
    (try simp only [Exit.inBlock, Exit.then])
    refine bodyPost_ret (by simp [results, Tryd.results106, go_sem]; try rfl) rfl ?_
    refine ⟨by first | rfl | simp [*], ?_⟩
    repeat (first | exact Below.refl _ _ | apply below_alloc | apply pw_below_drewN | apply below_drew1)

end Go.Proofs.YtoliipbmcekciaaDoor.QDc
