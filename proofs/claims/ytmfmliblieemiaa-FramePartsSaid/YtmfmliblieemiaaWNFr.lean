/- The walks of two statements on frames: the n-th tick is near; the tenants' windows together are all ticks. -/
import Derived.Test.YtmfmliblieemiaaWKFr
namespace Go.Proofs.Ytmfmliblieemiaa.QFr
open Go.RowKit Go.Proofs.YtmfmliblieemiaaW.PrintWords Go.Proofs.YtmfmliblieemiaaW.PrintLast Go.Proofs.YtmfmliblieemiaaW.PrintMore
set_option linter.unusedVariables false
set_option linter.unusedSimpArgs false

theorem near_facts (l : List Int) (t a n x : Int) (h : nthRes l t a n = (x, 0)) :
    ∃ g : Int, frame_Gap.f 200 l t = some (g, 0) ∧ ownRes l x = (t, 0) ∧ winRes l t a x = (n - 1, 0) ∧ a ≤ x ∧ x - a < n * g ∧ 0 ≤ g ∧ g ≤ 256 ∧ 1 ≤ n ∧ n ≤ 1048577 ∧ x ≤ 1048576 ∧ 0 ≤ a := by
  unfold nthRes at h
  by_cases c : (okRow l && okTick a && decide (1 ≤ n)) = true
  · rw [if_pos c] at h
    simp only [Bool.and_eq_true, decide_eq_true_eq] at c
    obtain ⟨⟨hr, ha⟩, hn⟩ := c
    have r := okRow_iff hr
    obtain ⟨y, rfl⟩ := Int.eq_ofNat_of_zero_le (okTick_iff ha).1
    obtain ⟨m, rfl⟩ := Int.eq_ofNat_of_zero_le (show 0 ≤ n by omega)
    by_cases c2 : l.count t = 0 ∨ (1048577 : Int) < (m : Int)
    · rw [if_pos c2] at h
      injection h with _ h
      omega
    · rw [if_neg c2, Int.toNat_natCast, Int.toNat_natCast] at h
      by_cases c3 : (1048576 : Int) < (nthAt l t y m : Int)
      · rw [if_pos c3] at h
        injection h with _ h
        omega
      · rw [if_neg c3] at h
        injection h with h _
        have hs : 0 < l.count t := by omega
        have hm1 : 1 ≤ m := by omega
        have hm2 : m ≤ 1048577 := by omega
        have hL : 0 < l.length := by omega
        obtain ⟨n1, n2, _⟩ := nthAt_is l t y m hs
        obtain ⟨g, g0, g1, g2, g3⟩ := Gap_ok l t hr hs
        have gm := gap_many l t g g1 g3 y m
        obtain ⟨z, hz⟩ : ∃ z, nthAt l t y m = z := ⟨_, rfl⟩
        rw [hz] at h n1 n2 c3
        clear hz
        subst h
        have hyz : y ≤ z := by
          rcases Nat.lt_or_ge z y with hlt | hge
          · have c5 := cn_succ l t z hL
            rw [if_pos n1] at c5
            have c6 := cn_le l t hL (show z + 1 ≤ y from hlt)
            rw [n2] at c5
            rw [c5] at c6
            clear c5 gm g3 n1 n2
            obtain ⟨p, hp⟩ : ∃ p, cn l t y = p := ⟨_, rfl⟩
            rw [hp] at c6
            omega
          · exact hge
        have hzt : okTick (z : Int) = true := decide_eq_true (by omega)
        refine ⟨g, g0, ?_, ?_, by omega, ?_, g1, g2, by omega, by omega, by omega, by omega⟩
        · unfold ownRes
          rw [hr, hzt, Int.toNat_natCast, n1]
          rfl
        · unfold winRes
          rw [hr, ha, hzt, Int.toNat_natCast, Int.toNat_natCast, n2]
          simp only [Bool.and_self, if_true]
          congr 1
          omega
        · have hb : z < y + m * g.toNat := by
            rcases Nat.lt_or_ge z (y + m * g.toNat) with hlt | hge
            · exact hlt
            · have c6 := cn_le l t hL hge
              rw [n2] at c6
              have := Nat.le_trans gm c6
              clear gm c6 g3 n1 n2
              obtain ⟨p, hp⟩ : ∃ p, cn l t y = p := ⟨_, rfl⟩
              rw [hp] at this
              omega
          obtain ⟨q, rfl⟩ := Int.eq_ofNat_of_zero_le g1
          rw [Int.toNat_natCast] at hb
          rw [← Int.natCast_mul]
          clear gm g3 n1 n2 g0
          omega
  · rw [if_neg c] at h
    injection h with _ h
    omega

theorem C_none {α : Type} (d : Kd α) (w : World) : d.C w none 0 [] := ⟨rfl, by omega, fun h => absurd h (by omega)⟩

set_option maxHeartbeats 1000000 in
theorem FrameNear_walk (A0 : Option Addr) (c0 : Nat) (l0 : List Int) (a1 a2 a3 : Int) (w : World) (hr : Kd.C (Kd.int .i64) w A0 l0.length l0) (hc : l0.length ≤ c0)
    (_b0 : BL l0) (_b1 : BI a1) (_b2 : BI a2) (_b3 : BI a3) :
    Calls Try.prog 5 #[.slice A0 l0.length c0, .int .i64 a1, .int .i64 a2, .int .i64 a3] w fun e w' => e = .returned (.bool true) ∧ Below w.heap.size w w' := by
  have HR := Aside0.mk hr
  have bn := wf64 _b3
  clear hr _b0 _b1 _b2 _b3
  go_enter Try.func5, Try.ntmps5
  go_wp2_with (go_at_call 10; refine (cut_read A0 c0 l0 w HR.out hc).mono ?_; rintro e w' ⟨l, c, rfl, hcl, hl, hk, rfl⟩)
  clear hl
  obtain ⟨y1, y2, hy⟩ : ∃ y1 y2, nthRes l a1 a2 a3 = (y1, y2) := ⟨_, _, rfl⟩
  have H3 : Aside0 (frame_Nth.f 120 l a1 a2 a3 = some (y1, y2)) := ⟨by rw [Nth_ok _ _ _ _ bn.2 bn.1 120 (by omega), hy]⟩
  by_cases he : y2 = 0
  · subst he
    obtain ⟨g, g0, h1, h2, h3, h4, h5, h6, h7, h8, h9, h10⟩ := near_facts l a1 a2 a3 y1 hy
    have H4 := Aside0.mk g0
    have H5 : Aside0 (frame_Owner.f l y1 = some (a1, 0)) := ⟨by rw [Owner_ok, h1]⟩
    have H6 : Aside0 (frame_Windows.f 70 l a1 a2 y1 = some (a3 - 1, 0)) := ⟨by rw [Windows_ok _ _ _ _ 70 (by omega), h2]⟩
    have H7 : Aside0 (rampartref04_Bound.f [] [] [] [] [] 0 0 1 = some 6) := ⟨by kernel_rfl⟩
    have eg : wrap64 (a3 * g) = a3 * g := by
      have b1 : 0 ≤ a3 * g := Int.mul_nonneg (by omega) h5
      have b2 : a3 * g ≤ 1048577 * 256 := Int.mul_le_mul h8 h6 h5 (by omega)
      unfold wrap64; omega
    have t1 : decide (y1 - a2 < wrap64 (a3 * g)) = true := decide_eq_true (by rw [eg]; exact h4)
    have t2 : decide (a2 ≤ y1) = true := decide_eq_true h3
    clear g0 h1 h2 h4 hy bn eg
    go_wp2_with (go_at_call 13; refine (frame_Nth.calls 120 A0 c l a1 a2 a3 y1 0 w hk.out hcl.out H3.out).mono ?_; rintro e w1 ⟨rfl, hd⟩; have K1 := Aside0.mk (Kd.C_below hk.out hd); have B1 := Aside0.mk hd; clear hd hk)
    go_wp2_with (go_at_call 19; refine (frame_Gap.calls 200 A0 c l a1 g 0 w1 K1.out hcl.out H4.out).mono ?_; rintro e w2 ⟨rfl, hd⟩; have K2 := Aside0.mk (Kd.C_below K1.out hd); have B2 := Aside0.mk (below_step B1.out hd); clear hd K1 B1)
    go_wp2_with (go_at_call 18; refine (frame_Owner.calls A0 c l y1 a1 0 w2 K2.out hcl.out H5.out).mono ?_; rintro e w3 ⟨rfl, hd⟩; have K3 := Aside0.mk (Kd.C_below K2.out hd.below); have B3 := Aside0.mk (below_step B2.out hd.below); clear hd K2 B2)
    go_wp2_with (go_at_call 11; refine (frame_Windows.calls 70 A0 c l a1 a2 y1 (a3 - 1) 0 w3 K3.out hcl.out H6.out).mono ?_; rintro e w4 ⟨rfl, hd⟩; have B4 := Aside0.mk (below_step B3.out hd); clear hd K3 B3)
    go_wp2_with (go_at_call 20; refine (rampartref04_Bound.calls none 0 [] none 0 [] none 0 [] none 0 [] none 0 [] 0 0 1 6 _ (C_none _ _) (Nat.le_refl _) (C_none _ _) (Nat.le_refl _) (C_none _ _) (Nat.le_refl _) (C_none _ _) (Nat.le_refl _) (C_none _ _) (Nat.le_refl _) H7.out).mono ?_; rintro e w5 ⟨rfl, hd⟩; have B5 := Aside0.mk (below_step (by repeat (first | exact B4.out | apply below_alloc | apply pw_below_drewN | apply below_drew1)) hd); clear hd B4)
    go_wp2_with (go_at_call 15; refine (alive_calls w5).mono ?_; rintro e w6 ⟨rfl, hd⟩; have B6 := Aside0.mk (below_step B5.out hd); clear hd B5)
    go_ret
    exact ⟨rfl, B6.out⟩
  · have hb : (y2 != 0) = true := by simp [he]
    clear hy bn
    go_wp2_with (first | (go_at_call 13; refine (frame_Nth.calls 120 A0 c l a1 a2 a3 y1 y2 w hk.out hcl.out H3.out).mono ?_; rintro e w1 ⟨rfl, hd⟩; have B1 := Aside0.mk hd; clear hd hk) | (go_at_call 15; refine (alive_calls w1).mono ?_; rintro e w6 ⟨rfl, hd⟩; have B6 := Aside0.mk (below_step B1.out hd); clear hd B1))
    go_ret
    exact ⟨rfl, B6.out⟩

/-- What the loop over the tenants adds up. -/
def part (l : List Int) (a b n : Nat) : Nat := psum (fun j => cn l j b - cn l j a) n
theorem part_le (l : List Int) (a b n : Nat) (hl : 0 < l.length) : part l a b n ≤ n * b := by
  unfold part
  induction n with
  | zero => simp [psum]
  | succ n ih =>
    rw [psum, Nat.succ_mul]
    have := cn_self l n b hl
    omega
theorem part_all (l : List Int) (a b n : Nat) (hl : 0 < l.length) (hx : ∀ x ∈ l, 0 ≤ x ∧ x < (n : Int)) : part l a b n = b - a := by
  unfold part
  by_cases h : a ≤ b
  · have := all_ticks l n a hl hx (b - a)
    rwa [show a + (b - a) = b by omega] at this
  · rw [psum_congr _ (fun _ => 0) n (fun j _ => by
      have := cn_le l j hl (show b ≤ a by omega)
      omega), psum_zero]
    omega

set_option maxHeartbeats 2000000 in
theorem FrameParts_good (A0 : Option Addr) (_c : Nat) (l : List Int) (n a b : Nat) (h1 : chkTell l n = 0) (ha : a ≤ 1048576) (hb : b ≤ 1048576) (c0 : Nat) (l0 : List Int) (w : World) (HR : Aside0 (Kd.C (Kd.int .i64) w A0 l0.length l0)) (hc : l0.length ≤ c0) (HL : Aside0 (l = l0.take 65)) :
    Calls Try.prog 4 #[.slice A0 l0.length c0, .int .i64 n, .int .i64 a, .int .i64 b] w fun e w' => e = .returned (.bool true) ∧ Below w.heap.size w w' := by
  obtain ⟨z1, z2, z3, z4, z5⟩ := chk_zero h1
  have hL : 0 < l.length := by omega
  have hrow : okRow l = true := decide_eq_true ⟨by omega, by omega⟩
  have ta : okTick (a : Int) = true := decide_eq_true (by omega)
  have tb : okTick (b : Int) = true := decide_eq_true (by omega)
  have H1 : Aside0 (rampartref19_Check.f 300 l n = some 0) := ⟨by rw [rCheck_ok _ _ 300 (by omega), h1]⟩
  have H2 : Aside0 (rampartref19_Tick.f (a : Int) = some true) := ⟨by rw [rtick_is, ta]⟩
  have H3 : Aside0 (rampartref19_Tick.f (b : Int) = some true) := ⟨by rw [rtick_is, tb]⟩
  have HW : Aside0 (∀ j : Nat, frame_Windows.f 70 l j a b = some (((cn l j b - cn l j a : Nat) : Int), 0)) := ⟨fun j => by
    rw [Windows_ok _ _ _ _ 70 (by omega)]
    unfold winRes
    rw [hrow, ta, tb, Int.toNat_natCast, Int.toNat_natCast]
    rfl⟩
  have hm := Nat.mod_lt a hL
  have hown := z5 _ (List.getElem_mem hm)
  rw [← rd_at l _ hm] at hown
  obtain ⟨o, ho⟩ : ∃ o, rd l ((a % l.length : Nat) : Int) = o := ⟨_, rfl⟩
  rw [ho] at hown
  have HO : Aside0 (frame_Owner.f l a = some (o, 0)) := ⟨by
    rw [Owner_ok]
    unfold ownRes
    rw [hrow, ta, Int.toNat_natCast, ho]
    rfl⟩
  have HPL : Aside0 (∀ m, part l a b m ≤ m * b) := ⟨fun m => part_le l a b m hL⟩
  have HCN : Aside0 (∀ j : Nat, cn l j b ≤ b) := ⟨fun j => cn_self l j b hL⟩
  have HPS : Aside0 (∀ m, part l a b (m + 1) = part l a b m + (cn l m b - cn l m a)) := ⟨fun m => rfl⟩
  have HPA : Aside0 (part l a b n = b - a) := ⟨part_all l a b n hL z5⟩
  have o1 : decide (0 ≤ o) = true := decide_eq_true hown.1
  have o2 : decide (o < (n : Int)) = true := decide_eq_true hown.2
  clear h1 z5 hrow ta tb hm hown ho hL
  go_enter Try.func4, Try.ntmps4
  go_wp2_with (go_at_call 10; refine (cut_read A0 c0 l0 w HR.out hc).mono ?_; rintro e w' ⟨lx, cx, rfl, hcl, hl, hk, rfl⟩)
  obtain rfl : lx = l := hl.out.trans HL.out.symm
  clear hl HL
  go_wp2_with (go_at_call 16; refine (rampartref19_Check.calls 300 A0 cx lx n 0 w hk.out hcl.out H1.out).mono ?_; rintro e w1 ⟨rfl, hd⟩; have K1 := Aside0.mk (Kd.C_below hk.out hd.below); have B1 := Aside0.mk hd.below; clear hd hk)
  go_wp2_with (go_at_call 17; refine (rampartref19_Tick.calls a true w1 H2.out).mono ?_; rintro e w2 ⟨rfl, hd⟩; have K2 := Aside0.mk (Kd.C_below K1.out hd.below); have B2 := Aside0.mk (below_step B1.out hd.below); clear hd K1 B1 H2)
  go_wp2_with (go_at_call 17; refine (rampartref19_Tick.calls b true w2 H3.out).mono ?_; rintro e w3 ⟨rfl, hd⟩; have K3 := Aside0.mk (Kd.C_below K2.out hd.below); have B3 := Aside0.mk (below_step B2.out hd.below); clear hd K2 B2 H3)
  go_loopw [9, 10] (fun s t wr => ∃ k : Nat, k ≤ n ∧ t = .int .i64 k ∧ s = .int .i64 ((part lx a b k : Nat) : Int) ∧ Aside0 (Kd.C (Kd.int .i64) wr A0 lx.length lx) ∧ Aside0 (Below w.heap.size w wr)) (fun _ t _ => n - (intOf t).toNat)
  case atStart => exact ⟨0, Nat.zero_le _, rfl, rfl, K3, B3⟩
  case round =>
    obtain ⟨k, hk, rfl, rfl, HK, HB⟩ := hrel
    by_cases hlt : k < n
    · have p1 : part lx a b k ≤ 16 * 1048576 := Nat.le_trans (HPL.out k) (Nat.mul_le_mul (by omega) hb)
      have p2 := HPS.out k
      have p3 := HCN.out k
      have HWk := Aside0.mk (HW.out k)
      obtain ⟨q, hq⟩ : ∃ q, cn lx k b - cn lx k a = q := ⟨_, rfl⟩
      have p4 : q ≤ 1048576 := by omega
      rw [hq] at p2 HWk
      obtain ⟨s, hs⟩ : ∃ s, part lx a b k = s := ⟨_, rfl⟩
      obtain ⟨s', hs'⟩ : ∃ s', part lx a b (k + 1) = s' := ⟨_, rfl⟩
      have HS' := Lib.hid hs'
      have HP2 : Hid (s' = s + q) := by rw [← hs', ← hs]; exact p2
      rw [hs] at p1 ⊢
      clear p2 p3 hq hs hs'
      have bz : decide ((q : Int) < 0) = false := decide_eq_false (by omega)
      go_wp2_with (go_at_call 11; refine (frame_Windows.calls 70 A0 cx lx k a b q 0 wr HK.out hcl.out HWk.out).mono ?_; rintro e w4 ⟨rfl, hd⟩; have K4 := Aside0.mk (Kd.C_below HK.out hd); have B4 := Aside0.mk (below_step HB.out hd); clear hd HK HB)
      go_roundw
      case rel => exact ⟨k + 1, by omega, by go_num, by rw [HS'.out, HP2.out]; go_num, K4, B4⟩
      case measure => simp [intOf]; omega
    · obtain rfl : k = n := by omega
      rw [HPA.out]
      by_cases hab : a < b
      · have em : ((b - a : Nat) : Int) = (b : Int) - a := by omega
        rw [em]
        have bm : decide ((0 : Int) < (b : Int) - a) = true := decide_eq_true (by omega)
        go_wp2_with (first | (go_at_call 18; refine (frame_Owner.calls A0 cx lx a o 0 wr HK.out hcl.out HO.out).mono ?_; rintro e w5 ⟨rfl, hd⟩; have B5 := Aside0.mk (below_step HB.out hd.below); clear hd HK HB) | (go_at_call 15; refine (alive_calls w5).mono ?_; rintro e w6 ⟨rfl, hd⟩; have B6 := Aside0.mk (below_step B5.out hd); clear hd B5))
        all_goals (go_ret; exact ⟨rfl, B6.out⟩)
      · have em : ((b - a : Nat) : Int) = 0 := by omega
        rw [em]
        go_wp2_with (first | (go_at_call 18; refine (frame_Owner.calls A0 cx lx a o 0 wr HK.out hcl.out HO.out).mono ?_; rintro e w5 ⟨rfl, hd⟩; have B5 := Aside0.mk (below_step HB.out hd.below); clear hd HK HB) | (go_at_call 15; refine (alive_calls w5).mono ?_; rintro e w6 ⟨rfl, hd⟩; have B6 := Aside0.mk (below_step B5.out hd); clear hd B5))
        all_goals (go_ret; exact ⟨rfl, B6.out⟩)

set_option maxHeartbeats 1000000 in
theorem FrameParts_bad (A0 : Option Addr) (l : List Int) (n a b : Int) (hbad : chkTell l n ≠ 0 ∨ okTick a = false ∨ okTick b = false) (c0 : Nat) (l0 : List Int) (w : World) (HR : Aside0 (Kd.C (Kd.int .i64) w A0 l0.length l0)) (hc : l0.length ≤ c0) (HL : Aside0 (l = l0.take 65)) :
    Calls Try.prog 4 #[.slice A0 l0.length c0, .int .i64 n, .int .i64 a, .int .i64 b] w fun e w' => e = .returned (.bool true) ∧ Below w.heap.size w w' := by
  obtain ⟨y, hy⟩ : ∃ y, chkTell l n = y := ⟨_, rfl⟩
  have H1 : Aside0 (rampartref19_Check.f 300 l n = some y) := ⟨by rw [rCheck_ok _ _ 300 (by omega), hy]⟩
  have H2 : Aside0 (rampartref19_Tick.f a = some (okTick a)) := ⟨rtick_is a⟩
  have H3 : Aside0 (rampartref19_Tick.f b = some (okTick b)) := ⟨rtick_is b⟩
  by_cases h1 : y = 0
  · subst h1
    have t1 : ((0 : Int) != 0) = false := rfl
    cases ha : okTick a with
    | false =>
      rw [ha] at H2
      clear ha hbad hy H3
      go_enter Try.func4, Try.ntmps4
      go_wp2_with (go_at_call 10; refine (cut_read A0 c0 l0 w HR.out hc).mono ?_; rintro e w' ⟨lx, cx, rfl, hcl, hl, hk, rfl⟩)
      obtain rfl : lx = l := hl.out.trans HL.out.symm
      clear hl HL
      go_wp2_with (go_at_call 16; refine (rampartref19_Check.calls 300 A0 cx lx n 0 w hk.out hcl.out H1.out).mono ?_; rintro e w1 ⟨rfl, hd⟩; have B1 := Aside0.mk hd.below; clear hd hk)
      go_wp2_with (go_at_call 17; refine (rampartref19_Tick.calls a false w1 H2.out).mono ?_; rintro e w2 ⟨rfl, hd⟩; have B2 := Aside0.mk (below_step B1.out hd.below); clear hd B1 H2)
      go_wp2_with (go_at_call 15; refine (alive_calls w2).mono ?_; rintro e w6 ⟨rfl, hd⟩; have B6 := Aside0.mk (below_step B2.out hd); clear hd B2)
      go_ret
      exact ⟨rfl, B6.out⟩
    | true =>
      rw [ha] at H2
      have hb : okTick b = false := by
        rcases hbad with h | h | h
        · exact absurd hy h
        · rw [ha] at h; cases h
        · exact h
      rw [hb] at H3
      clear ha hbad hy hb
      go_enter Try.func4, Try.ntmps4
      go_wp2_with (go_at_call 10; refine (cut_read A0 c0 l0 w HR.out hc).mono ?_; rintro e w' ⟨lx, cx, rfl, hcl, hl, hk, rfl⟩)
      obtain rfl : lx = l := hl.out.trans HL.out.symm
      clear hl HL
      go_wp2_with (go_at_call 16; refine (rampartref19_Check.calls 300 A0 cx lx n 0 w hk.out hcl.out H1.out).mono ?_; rintro e w1 ⟨rfl, hd⟩; have B1 := Aside0.mk hd.below; clear hd hk)
      go_wp2_with (go_at_call 17; refine (rampartref19_Tick.calls a true w1 H2.out).mono ?_; rintro e w2 ⟨rfl, hd⟩; have B2 := Aside0.mk (below_step B1.out hd.below); clear hd B1 H2)
      go_wp2_with (go_at_call 17; refine (rampartref19_Tick.calls b false w2 H3.out).mono ?_; rintro e w3 ⟨rfl, hd⟩; have B3 := Aside0.mk (below_step B2.out hd.below); clear hd B2 H3)
      go_wp2_with (go_at_call 15; refine (alive_calls w3).mono ?_; rintro e w6 ⟨rfl, hd⟩; have B6 := Aside0.mk (below_step B3.out hd); clear hd B3)
      go_ret
      exact ⟨rfl, B6.out⟩
  · have t1 : (y != 0) = true := by simp [h1]
    clear hbad hy h1 H2 H3
    go_enter Try.func4, Try.ntmps4
    go_wp2_with (go_at_call 10; refine (cut_read A0 c0 l0 w HR.out hc).mono ?_; rintro e w' ⟨lx, cx, rfl, hcl, hl, hk, rfl⟩)
    obtain rfl : lx = l := hl.out.trans HL.out.symm
    clear hl HL
    go_wp2_with (go_at_call 16; refine (rampartref19_Check.calls 300 A0 cx lx n y w hk.out hcl.out H1.out).mono ?_; rintro e w1 ⟨rfl, hd⟩; have B1 := Aside0.mk hd.below; clear hd hk)
    go_wp2_with (go_at_call 15; refine (alive_calls w1).mono ?_; rintro e w6 ⟨rfl, hd⟩; have B6 := Aside0.mk (below_step B1.out hd); clear hd B1)
    go_ret
    exact ⟨rfl, B6.out⟩
theorem FrameParts_walk (A0 : Option Addr) (c0 : Nat) (l0 : List Int) (a1 a2 a3 : Int) (w : World) (hr : Kd.C (Kd.int .i64) w A0 l0.length l0) (hc : l0.length ≤ c0)
    (_b0 : BL l0) (_b1 : BI a1) (_b2 : BI a2) (_b3 : BI a3) :
    Calls Try.prog 4 #[.slice A0 l0.length c0, .int .i64 a1, .int .i64 a2, .int .i64 a3] w fun e w' => e = .returned (.bool true) ∧ Below w.heap.size w w' := by
  by_cases hbad : chkTell (l0.take 65) a1 ≠ 0 ∨ okTick a2 = false ∨ okTick a3 = false
  · exact FrameParts_bad A0 (l0.take 65) a1 a2 a3 hbad c0 l0 w ⟨hr⟩ hc ⟨rfl⟩
  · simp only [not_or, ne_eq, Classical.not_not, Bool.not_eq_false] at hbad
    obtain ⟨h1, h2, h3⟩ := hbad
    have z := chk_zero h1
    have ha := okTick_iff h2
    have hb := okTick_iff h3
    obtain ⟨n, rfl⟩ := Int.eq_ofNat_of_zero_le (show 0 ≤ a1 by omega)
    obtain ⟨a, rfl⟩ := Int.eq_ofNat_of_zero_le ha.1
    obtain ⟨b, rfl⟩ := Int.eq_ofNat_of_zero_le hb.1
    exact FrameParts_good A0 0 (l0.take 65) n a b h1 (by omega) (by omega) c0 l0 w ⟨hr⟩ hc ⟨rfl⟩
end Go.Proofs.Ytmfmliblieemiaa.QFr
