/- Decode: the law DecodeNames walked. -/
import Derived.Test.YtoliipbmcekciaaDoorJ3Dd
import Derived.Test.YtoliipbmcekciaaDoorADc
namespace Go.Proofs.YtoliipbmcekciaaDoor.QDd
open Go.RowKit Go.Proofs.YtoliipbmcekciaaDoorW.PrintWords Go.Proofs.YtoliipbmcekciaaDoorW.PrintLast Go.Proofs.YtoliipbmcekciaaDoorW.PrintMore
open Go.Proofs.YtoliipbmcekciaaDoor.QDc (obj_below take_at yields_blk load_blk load_any store_blk blk_setCells setAll far_setCells below_setCells Glob alive_calls)
set_option linter.unusedVariables false
set_option linter.unusedSimpArgs false
set_option maxRecDepth 100000 in
set_option maxHeartbeats 4000000 in
theorem DecodeNames_walk (A0_0 : Option Addr) (c0_0 : Nat) (l0_0 : List Int) (A0_1 : Option Addr) (c0_1 : Nat) (l0_1 : List S97) (A0_2 : Option Addr) (c0_2 : Nat) (l0_2 : List S87) (A0_3 : Option Addr) (c0_3 : Nat) (l0_3 : List S107) (A0_4 : Option Addr) (c0_4 : Nat) (l0_4 : List Int) (a0_5 a0_6 a0_7 : Int) (a1 a2 a3 a4_0 a4_1 a4_2 a4_3 a4_4 : Int) (W : World) (hr0_0 : Kd.C (Kd.int .u64) W A0_0 l0_0.length l0_0) (hc0_0 : l0_0.length ≤ c0_0) (hr0_1 : Kd.C k97 W A0_1 l0_1.length l0_1) (hc0_1 : l0_1.length ≤ c0_1) (hr0_2 : Kd.C k87 W A0_2 l0_2.length l0_2) (hc0_2 : l0_2.length ≤ c0_2) (hr0_3 : Kd.C k107 W A0_3 l0_3.length l0_3) (hc0_3 : l0_3.length ≤ c0_3) (hr0_4 : Kd.C (Kd.int .i64) W A0_4 l0_4.length l0_4) (hc0_4 : l0_4.length ≤ c0_4) (h3 : U8 a3) (h41 : U8 a4_1) (h42 : U8 a4_2) (hg : Glob W) :
    Calls Tryd.prog 6 #[.agg #[.slice A0_0 l0_0.length c0_0, .slice A0_1 l0_1.length c0_1, .slice A0_2 l0_2.length c0_2, .slice A0_3 l0_3.length c0_3, .slice A0_4 l0_4.length c0_4, .int .i64 a0_5, .int .i64 a0_6, .int .i64 a0_7], .int .i64 a1, .int .i64 a2, .int .u8 a3, .agg #[.int .u8 a4_0, .int .u8 a4_1, .int .u8 a4_2, .int .u32 a4_3, .int .u64 a4_4]] W fun e w' => e = .returned (.bool true) ∧ Below W.heap.size W w' := by
  have H00 := Aside0.mk (And.intro hr0_0 hc0_0)
  have H01 := Aside0.mk (And.intro hr0_1 hc0_1)
  have H02 := Aside0.mk (And.intro hr0_2 hc0_2)
  have H03 := Aside0.mk (And.intro hr0_3 hc0_3)
  have H04 := Aside0.mk (And.intro hr0_4 hc0_4)
  have HG := Aside0.mk hg
  have HU := Aside0.mk (And.intro h3 (And.intro h41 h42))
  clear h3 h41 h42
  clear hg hr0_0 hc0_0 hr0_1 hc0_1 hr0_2 hc0_2 hr0_3 hc0_3 hr0_4 hc0_4
  obtain ⟨b, hb, hsm⟩ := small_total l0_0 l0_1 l0_2 l0_3 l0_4 a0_5 a0_6 a0_7
  have HSM := Aside0.mk (And.intro hb hsm)
  clear hb hsm
  go_enter Tryd.func6, Tryd.ntmps6
  go_upto_region 1 with fail
  have B1 : Aside0 (Below W.heap.size W ((W.alloc (.cells #[.slice A0_0 l0_0.length c0_0, .slice A0_1 l0_1.length c0_1, .slice A0_2 l0_2.length c0_2, .slice A0_3 l0_3.length c0_3, .slice A0_4 l0_4.length c0_4, .int .i64 a0_5, .int .i64 a0_6, .int .i64 a0_7] 28)).alloc (.cells #[.int .u8 a4_0, .int .u8 a4_1, .int .u8 a4_2, .int .u32 a4_3, .int .u64 a4_4] 55))) := ⟨((Below.refl _ W).alloc (Nat.le_refl _) _).alloc (by simp) _⟩
  have E0 : Aside0 (((W.alloc (.cells #[.slice A0_0 l0_0.length c0_0, .slice A0_1 l0_1.length c0_1, .slice A0_2 l0_2.length c0_2, .slice A0_3 l0_3.length c0_3, .slice A0_4 l0_4.length c0_4, .int .i64 a0_5, .int .i64 a0_6, .int .i64 a0_7] 28)).alloc (.cells #[.int .u8 a4_0, .int .u8 a4_1, .int .u8 a4_2, .int .u32 a4_3, .int .u64 a4_4] 55)).heap[W.heap.size]? = some (.cells #[.slice A0_0 l0_0.length c0_0, .slice A0_1 l0_1.length c0_1, .slice A0_2 l0_2.length c0_2, .slice A0_3 l0_3.length c0_3, .slice A0_4 l0_4.length c0_4, .int .i64 a0_5, .int .i64 a0_6, .int .i64 a0_7] 28 (0, 0))) := ⟨((Below.heap_alloc _ _ _ (by simp)).trans (by have := World.alloc_heap_new W (.cells #[.slice A0_0 l0_0.length c0_0, .slice A0_1 l0_1.length c0_1, .slice A0_2 l0_2.length c0_2, .slice A0_3 l0_3.length c0_3, .slice A0_4 l0_4.length c0_4, .int .i64 a0_5, .int .i64 a0_6, .int .i64 a0_7] 28); exact this))⟩
  have E1 : Aside0 (((W.alloc (.cells #[.slice A0_0 l0_0.length c0_0, .slice A0_1 l0_1.length c0_1, .slice A0_2 l0_2.length c0_2, .slice A0_3 l0_3.length c0_3, .slice A0_4 l0_4.length c0_4, .int .i64 a0_5, .int .i64 a0_6, .int .i64 a0_7] 28)).alloc (.cells #[.int .u8 a4_0, .int .u8 a4_1, .int .u8 a4_2, .int .u32 a4_3, .int .u64 a4_4] 55)).heap[W.heap.size + 1]? = some (.cells #[.int .u8 a4_0, .int .u8 a4_1, .int .u8 a4_2, .int .u32 a4_3, .int .u64 a4_4] 55 (0, 0))) := ⟨(by have := World.alloc_heap_new (W.alloc (.cells #[.slice A0_0 l0_0.length c0_0, .slice A0_1 l0_1.length c0_1, .slice A0_2 l0_2.length c0_2, .slice A0_3 l0_3.length c0_3, .slice A0_4 l0_4.length c0_4, .int .i64 a0_5, .int .i64 a0_6, .int .i64 a0_7] 28)) (.cells #[.int .u8 a4_0, .int .u8 a4_1, .int .u8 a4_2, .int .u32 a4_3, .int .u64 a4_4] 55); simpa [World.size_alloc] using this)⟩
  generalize ((W.alloc (.cells #[.slice A0_0 l0_0.length c0_0, .slice A0_1 l0_1.length c0_1, .slice A0_2 l0_2.length c0_2, .slice A0_3 l0_3.length c0_3, .slice A0_4 l0_4.length c0_4, .int .i64 a0_5, .int .i64 a0_6, .int .i64 a0_7] 28)).alloc (.cells #[.int .u8 a4_0, .int .u8 a4_1, .int .u8 a4_2, .int .u32 a4_3, .int .u64 a4_4] 55)) = w1 at B1 E0 E1 ⊢
  cases b with
  | false =>
    go_wp2_with (first | ((with_reducible refine gate_ (.load 28 (.tmp 5)) rfl ?_); (try (refine gate_guard (by rfl) ?_; dsimp only)); refine load_blk rfl 28 (.tmp 5) rfl W.heap.size _ 28 rfl _ E0.out Tryd.underlying28 rfl (by kernel_rfl) ?_) | (go_at_call 15; refine (rampartlaw21_small.calls 50 A0_0 c0_0 l0_0 A0_1 c0_1 l0_1 A0_2 c0_2 l0_2 A0_3 c0_3 l0_3 A0_4 c0_4 l0_4 a0_5 a0_6 a0_7 _ _ (Kd.C_below H00.out.1 (B1.out)) H00.out.2 (Kd.C_below H01.out.1 (B1.out)) H01.out.2 (Kd.C_below H02.out.1 (B1.out)) H02.out.2 (Kd.C_below H03.out.1 (B1.out)) H03.out.2 (Kd.C_below H04.out.1 (B1.out)) H04.out.2 HSM.out.1).mono ?_; rintro e w2 ⟨rfl, hB⟩; have N2 := Aside0.mk hB; clear hB) | (go_at_call 14; refine (alive_calls _ (HG.out.below (B1.out.trans (N2.out.mono B1.out.size)))).mono ?_; rintro e w3 ⟨rfl, hb⟩; have N3 := Aside0.mk hb; clear hb))
    go_ret
    exact ⟨rfl, (B1.out.trans (N2.out.mono B1.out.size)).trans (N3.out.mono (B1.out.trans (N2.out.mono B1.out.size)).size)⟩
  | true =>
    go_upto_region 3 with (first | ((with_reducible refine gate_ (.load 28 (.tmp 5)) rfl ?_); (try (refine gate_guard (by rfl) ?_; dsimp only)); refine load_blk rfl 28 (.tmp 5) rfl W.heap.size _ 28 rfl _ E0.out Tryd.underlying28 rfl (by kernel_rfl) ?_) | (go_at_call 15; refine (rampartlaw21_small.calls 50 A0_0 c0_0 l0_0 A0_1 c0_1 l0_1 A0_2 c0_2 l0_2 A0_3 c0_3 l0_3 A0_4 c0_4 l0_4 a0_5 a0_6 a0_7 _ _ (Kd.C_below H00.out.1 (B1.out)) H00.out.2 (Kd.C_below H01.out.1 (B1.out)) H01.out.2 (Kd.C_below H02.out.1 (B1.out)) H02.out.2 (Kd.C_below H03.out.1 (B1.out)) H03.out.2 (Kd.C_below H04.out.1 (B1.out)) H04.out.2 HSM.out.1).mono ?_; rintro e w2 ⟨rfl, hB⟩; have N2 := Aside0.mk hB; clear hB))
    have B2 : Aside0 (Below W.heap.size W w2) := ⟨B1.out.trans (N2.out.mono B1.out.size)⟩
    have F0 := Aside0.mk (obj_below N2.out E0.out)
    have F1 := Aside0.mk (obj_below N2.out E1.out)
    have HS : Aside0 (Small l0_2) := ⟨small_of (HSM.out.2 (by trivial)).1 (HSM.out.2 (by trivial)).2.2.2.2.2⟩
    obtain ⟨q1, hq1⟩ : ∃ q, Rules3B l0_2 a1 a2 a3 = q := ⟨_, rfl⟩
    obtain ⟨q2, hq2⟩ : ∃ q, (decide (a4_0 = 1) && Rules5B l0_2 a4_1 a2 a4_2) = q := ⟨_, rfl⟩
    have HQ := Aside0.mk (And.intro hq1 hq2)
    clear hq1 hq2 E0 E1 N2 B1
    refine wp_region_held_drew (S := fun w' => Below w2.heap.size w2 w') (by kernel_rfl) (pw_below_drewN (Below.refl _ _) 1) (fun hHeld => ?_)
    generalize w2.drew = w3 at hHeld ⊢
    refine take_at (i := 0) (v := (.agg #[.slice A0_0 l0_0.length c0_0, .slice A0_1 l0_1.length c0_1, .slice A0_2 l0_2.length c0_2, .slice A0_3 l0_3.length c0_3, .slice A0_4 l0_4.length c0_4, .int .i64 a0_5, .int .i64 a0_6, .int .i64 a0_7])) 15 rfl rfl (by kernel_rfl) (by kernel_rfl) (by kernel_rfl) (fun _ _ _ h => h) (yields_blk (by rfl) 28 (.tmp 5) rfl (W.heap.size) _ 28 rfl _ (fun w' hS => obj_below hS F0.out) Tryd.underlying28 rfl (by kernel_rfl)) hHeld ?_
    try simp only [Act.put, List.setIfInBounds_toArray, List.set_cons_zero, List.set_cons_succ]
    refine take_at (i := 1) (v := (.int .i64 a1)) 16 rfl rfl (by kernel_rfl) (by kernel_rfl) (by kernel_rfl) (fun _ _ _ h => h) (Or.inl ⟨by rfl, fun w _ => by first | (go_simp; done) | (go_simp; with_reducible rfl) | rfl⟩) hHeld ?_
    try simp only [Act.put, List.setIfInBounds_toArray, List.set_cons_zero, List.set_cons_succ]
    refine take_at (i := 2) (v := (.int .i64 a2)) 17 rfl rfl (by kernel_rfl) (by kernel_rfl) (by kernel_rfl) (fun _ _ _ h => h) (Or.inl ⟨by rfl, fun w _ => by first | (go_simp; done) | (go_simp; with_reducible rfl) | rfl⟩) hHeld ?_
    try simp only [Act.put, List.setIfInBounds_toArray, List.set_cons_zero, List.set_cons_succ]
    refine take_at (i := 3) (v := (.int .u8 a3)) 18 rfl rfl (by kernel_rfl) (by kernel_rfl) (by kernel_rfl) (fun _ _ _ h => h) (Or.inl ⟨by rfl, fun w _ => by first | (go_simp; done) | (go_simp; with_reducible rfl) | rfl⟩) hHeld ?_
    try simp only [Act.put, List.setIfInBounds_toArray, List.set_cons_zero, List.set_cons_succ]
    refine take_at (i := 5) (v := (.agg #[.slice A0_0 l0_0.length c0_0, .slice A0_1 l0_1.length c0_1, .slice A0_2 l0_2.length c0_2, .slice A0_3 l0_3.length c0_3, .slice A0_4 l0_4.length c0_4, .int .i64 a0_5, .int .i64 a0_6, .int .i64 a0_7])) 20 rfl rfl (by kernel_rfl) (by kernel_rfl) (by kernel_rfl) (fun _ _ _ h => h) (yields_blk (by rfl) 28 (.tmp 5) rfl (W.heap.size) _ 28 rfl _ (fun w' hS => obj_below hS F0.out) Tryd.underlying28 rfl (by kernel_rfl)) hHeld ?_
    try simp only [Act.put, List.setIfInBounds_toArray, List.set_cons_zero, List.set_cons_succ]
    refine take_at (i := 6) (v := (.int .i64 a1)) 21 rfl rfl (by kernel_rfl) (by kernel_rfl) (by kernel_rfl) (fun _ _ _ h => h) (Or.inl ⟨by rfl, fun w _ => by first | (go_simp; done) | (go_simp; with_reducible rfl) | rfl⟩) hHeld ?_
    try simp only [Act.put, List.setIfInBounds_toArray, List.set_cons_zero, List.set_cons_succ]
    refine take_at (i := 7) (v := (.int .i64 a2)) 22 rfl rfl (by kernel_rfl) (by kernel_rfl) (by kernel_rfl) (fun _ _ _ h => h) (Or.inl ⟨by rfl, fun w _ => by first | (go_simp; done) | (go_simp; with_reducible rfl) | rfl⟩) hHeld ?_
    try simp only [Act.put, List.setIfInBounds_toArray, List.set_cons_zero, List.set_cons_succ]
    refine take_at (i := 8) (v := (.int .u8 a3)) 23 rfl rfl (by kernel_rfl) (by kernel_rfl) (by kernel_rfl) (fun _ _ _ h => h) (Or.inl ⟨by rfl, fun w _ => by first | (go_simp; done) | (go_simp; with_reducible rfl) | rfl⟩) hHeld ?_
    try simp only [Act.put, List.setIfInBounds_toArray, List.set_cons_zero, List.set_cons_succ]
    have N3 := Aside0.mk hHeld
    refine wpAnyH_ready (rs := [4]) (by kernel_rfl) (by simp) ?_
    refine AllReadyH.cons rfl (fun K hK => ?_) AllReadyH.nil
    go_simp
    go_wp2_with (first | (go_at_call 17; refine (Named_calls (.slice A0_0 l0_0.length c0_0) (.slice A0_1 l0_1.length c0_1) (.slice A0_3 l0_3.length c0_3) (.slice A0_4 l0_4.length c0_4) (.int .i64 a0_5) (.int .i64 a0_6) (.int .i64 a0_7) A0_2 c0_2 l0_2 a1 a2 a3 _ (by rfl) H02.out.2 HS.out (Kd.C_below H02.out.1 (B2.out.trans (N3.out.mono B2.out.size)))).mono ?_; rintro e w4 ⟨rfl, hb⟩; rw [HQ.out.1]; have N4 := Aside0.mk (below_step N3.out hb); clear hb))
    clear hHeld
    refine hK.out _ _ N4.out (fun hHeld => ?_)
    clear hK K
    try simp only [Act.put, List.setIfInBounds_toArray, List.set_cons_zero, List.set_cons_succ]
    refine wpAnyH_ready (rs := [9]) (by kernel_rfl) (by simp) ?_
    refine AllReadyH.cons rfl (fun K hK => ?_) AllReadyH.nil
    go_simp
    go_wp2_with (first | (go_at_call 20; refine (rampartref21_Named.calls 1002 A0_0 c0_0 l0_0 A0_1 c0_1 l0_1 A0_2 c0_2 l0_2 A0_3 c0_3 l0_3 A0_4 c0_4 l0_4 a0_5 a0_6 a0_7 a1 a2 a3 q1 _ (Kd.C_below H00.out.1 (B2.out.trans (N4.out.mono B2.out.size))) H00.out.2 (Kd.C_below H01.out.1 (B2.out.trans (N4.out.mono B2.out.size))) H01.out.2 (Kd.C_below H02.out.1 (B2.out.trans (N4.out.mono B2.out.size))) H02.out.2 (Kd.C_below H03.out.1 (B2.out.trans (N4.out.mono B2.out.size))) H03.out.2 (Kd.C_below H04.out.1 (B2.out.trans (N4.out.mono B2.out.size))) H04.out.2 (by rw [RNamed_eq _ _ _ _ _ _ _ _ _ _ _ HS.out HU.out.1 1002 (by decide), HQ.out.1])).mono ?_; rintro e w5 ⟨rfl, hb⟩; have N5 := Aside0.mk (below_step N4.out hb); clear hb))
    clear hHeld
    refine hK.out _ _ N5.out (fun hHeld => ?_)
    clear hK K
    try simp only [Act.put, List.setIfInBounds_toArray, List.set_cons_zero, List.set_cons_succ]
    refine take_at (i := 10) (v := (.bool true)) 25 rfl rfl (by kernel_rfl) (by kernel_rfl) (by kernel_rfl) (fun _ _ _ h => h) (Or.inl ⟨by rfl, fun w _ => by first | (go_simp; done) | (go_simp; with_reducible rfl) | rfl⟩) hHeld ?_
    try simp only [Act.put, List.setIfInBounds_toArray, List.set_cons_zero, List.set_cons_succ]
    refine take_at (i := 11) (v := (.bool true)) 26 rfl rfl (by kernel_rfl) (by kernel_rfl) (by kernel_rfl) (fun _ _ _ h => h) (Or.inl ⟨by rfl, fun w _ => by first | (go_simp; done) | (go_simp; with_reducible rfl) | rfl⟩) hHeld ?_
    try simp only [Act.put, List.setIfInBounds_toArray, List.set_cons_zero, List.set_cons_succ]
    refine take_at (i := 12) (v := (.agg #[.slice A0_0 l0_0.length c0_0, .slice A0_1 l0_1.length c0_1, .slice A0_2 l0_2.length c0_2, .slice A0_3 l0_3.length c0_3, .slice A0_4 l0_4.length c0_4, .int .i64 a0_5, .int .i64 a0_6, .int .i64 a0_7])) 27 rfl rfl (by kernel_rfl) (by kernel_rfl) (by kernel_rfl) (fun _ _ _ h => h) (yields_blk (by rfl) 28 (.tmp 5) rfl (W.heap.size) _ 28 rfl _ (fun w' hS => obj_below hS F0.out) Tryd.underlying28 rfl (by kernel_rfl)) hHeld ?_
    try simp only [Act.put, List.setIfInBounds_toArray, List.set_cons_zero, List.set_cons_succ]
    refine take_at (i := 13) (v := (.int .i64 a2)) 28 rfl rfl (by kernel_rfl) (by kernel_rfl) (by kernel_rfl) (fun _ _ _ h => h) (Or.inl ⟨by rfl, fun w _ => by first | (go_simp; done) | (go_simp; with_reducible rfl) | rfl⟩) hHeld ?_
    try simp only [Act.put, List.setIfInBounds_toArray, List.set_cons_zero, List.set_cons_succ]
    refine take_at (i := 14) (v := (.agg #[.int .u8 a4_0, .int .u8 a4_1, .int .u8 a4_2, .int .u32 a4_3, .int .u64 a4_4])) 29 rfl rfl (by kernel_rfl) (by kernel_rfl) (by kernel_rfl) (fun _ _ _ h => h) (yields_blk (by rfl) 55 (.tmp 9) rfl (W.heap.size + 1) _ 55 rfl _ (fun w' hS => obj_below hS F1.out) Tryd.underlying55 rfl (by kernel_rfl)) hHeld ?_
    try simp only [Act.put, List.setIfInBounds_toArray, List.set_cons_zero, List.set_cons_succ]
    refine take_at (i := 16) (v := (.agg #[.slice A0_0 l0_0.length c0_0, .slice A0_1 l0_1.length c0_1, .slice A0_2 l0_2.length c0_2, .slice A0_3 l0_3.length c0_3, .slice A0_4 l0_4.length c0_4, .int .i64 a0_5, .int .i64 a0_6, .int .i64 a0_7])) 31 rfl rfl (by kernel_rfl) (by kernel_rfl) (by kernel_rfl) (fun _ _ _ h => h) (yields_blk (by rfl) 28 (.tmp 5) rfl (W.heap.size) _ 28 rfl _ (fun w' hS => obj_below hS F0.out) Tryd.underlying28 rfl (by kernel_rfl)) hHeld ?_
    try simp only [Act.put, List.setIfInBounds_toArray, List.set_cons_zero, List.set_cons_succ]
    refine take_at (i := 17) (v := (.int .i64 a2)) 32 rfl rfl (by kernel_rfl) (by kernel_rfl) (by kernel_rfl) (fun _ _ _ h => h) (Or.inl ⟨by rfl, fun w _ => by first | (go_simp; done) | (go_simp; with_reducible rfl) | rfl⟩) hHeld ?_
    try simp only [Act.put, List.setIfInBounds_toArray, List.set_cons_zero, List.set_cons_succ]
    refine take_at (i := 18) (v := (.agg #[.int .u8 a4_0, .int .u8 a4_1, .int .u8 a4_2, .int .u32 a4_3, .int .u64 a4_4])) 33 rfl rfl (by kernel_rfl) (by kernel_rfl) (by kernel_rfl) (fun _ _ _ h => h) (yields_blk (by rfl) 55 (.tmp 9) rfl (W.heap.size + 1) _ 55 rfl _ (fun w' hS => obj_below hS F1.out) Tryd.underlying55 rfl (by kernel_rfl)) hHeld ?_
    try simp only [Act.put, List.setIfInBounds_toArray, List.set_cons_zero, List.set_cons_succ]
    refine wpAnyH_ready (rs := [15]) (by kernel_rfl) (by simp) ?_
    refine AllReadyH.cons rfl (fun K hK => ?_) AllReadyH.nil
    go_simp
    go_wp2_with (first | (go_at_call 21; refine (Opens_calls (.slice A0_0 l0_0.length c0_0) (.slice A0_1 l0_1.length c0_1) (.slice A0_3 l0_3.length c0_3) (.slice A0_4 l0_4.length c0_4) (.int .i64 a0_5) (.int .i64 a0_6) (.int .i64 a0_7) A0_2 c0_2 l0_2 a2 a4_0 a4_1 a4_2 a4_3 a4_4 _ HU.out.2.1 (by rfl) H02.out.2 HS.out (Kd.C_below H02.out.1 (B2.out.trans (N5.out.mono B2.out.size)))).mono ?_; rintro e w6 ⟨rfl, hb⟩; rw [HQ.out.2]; have N6 := Aside0.mk (below_step N5.out hb); clear hb))
    clear hHeld
    refine hK.out _ _ N6.out (fun hHeld => ?_)
    clear hK K
    try simp only [Act.put, List.setIfInBounds_toArray, List.set_cons_zero, List.set_cons_succ]
    refine wpAnyH_ready (rs := [19]) (by kernel_rfl) (by simp) ?_
    refine AllReadyH.cons rfl (fun K hK => ?_) AllReadyH.nil
    go_simp
    go_wp2_with (first | (go_at_call 22; refine (rampartref21_Opens.calls 1003 A0_0 c0_0 l0_0 A0_1 c0_1 l0_1 A0_2 c0_2 l0_2 A0_3 c0_3 l0_3 A0_4 c0_4 l0_4 a0_5 a0_6 a0_7 a2 a4_0 a4_1 a4_2 a4_3 a4_4 q2 _ (Kd.C_below H00.out.1 (B2.out.trans (N6.out.mono B2.out.size))) H00.out.2 (Kd.C_below H01.out.1 (B2.out.trans (N6.out.mono B2.out.size))) H01.out.2 (Kd.C_below H02.out.1 (B2.out.trans (N6.out.mono B2.out.size))) H02.out.2 (Kd.C_below H03.out.1 (B2.out.trans (N6.out.mono B2.out.size))) H03.out.2 (Kd.C_below H04.out.1 (B2.out.trans (N6.out.mono B2.out.size))) H04.out.2 (by rw [ROpens_eq _ _ _ _ _ _ _ _ _ _ _ _ _ _ HS.out HU.out.2.1 HU.out.2.2 1003 (by decide), HQ.out.2])).mono ?_; rintro e w7 ⟨rfl, hb⟩; have N7 := Aside0.mk (below_step N6.out hb); clear hb))
    clear hHeld
    refine hK.out _ _ N7.out (fun hHeld => ?_)
    clear hK K
    try simp only [Act.put, List.setIfInBounds_toArray, List.set_cons_zero, List.set_cons_succ]
    refine take_at (i := 20) (v := (.bool true)) 35 rfl rfl (by kernel_rfl) (by kernel_rfl) (by kernel_rfl) (fun _ _ _ h => h) (Or.inl ⟨by rfl, fun w _ => by first | (go_simp; done) | (go_simp; with_reducible rfl) | rfl⟩) hHeld ?_
    try simp only [Act.put, List.setIfInBounds_toArray, List.set_cons_zero, List.set_cons_succ]
    refine take_at (i := 21) (v := (.bool true)) 36 rfl rfl (by kernel_rfl) (by kernel_rfl) (by kernel_rfl) (fun _ _ _ h => h) (Or.inl ⟨by rfl, fun w _ => by first | (go_simp; done) | (go_simp; with_reducible rfl) | rfl⟩) hHeld ?_
    try simp only [Act.put, List.setIfInBounds_toArray, List.set_cons_zero, List.set_cons_succ]
    refine take_at (i := 22) (v := (.bool true)) 37 rfl rfl (by kernel_rfl) (by kernel_rfl) (by kernel_rfl) (fun _ _ _ h => h) (Or.inl ⟨by rfl, fun w _ => by first | (go_simp; done) | (go_simp; with_reducible rfl) | rfl⟩) hHeld ?_
    try simp only [Act.put, List.setIfInBounds_toArray, List.set_cons_zero, List.set_cons_succ]
    refine wpAnyH_ready (rs := [23]) (by kernel_rfl) (by simp) ?_
    refine AllReadyH.cons rfl (fun K hK => ?_) AllReadyH.nil
    go_simp
    go_wp2_with (first | (go_at_call 14; refine (alive_calls _ (HG.out.below (B2.out.trans (N7.out.mono B2.out.size)))).mono ?_; rintro e w8 ⟨rfl, hb⟩; have N8 := Aside0.mk (below_step N7.out hb); clear hb))
    clear hHeld
    refine hK.out _ _ N8.out (fun hHeld => ?_)
    clear hK K
    try simp only [Act.put, List.setIfInBounds_toArray, List.set_cons_zero, List.set_cons_succ]
    refine take_at (i := 24) (v := (.bool true)) 39 rfl rfl (by kernel_rfl) (by kernel_rfl) (by kernel_rfl) (fun _ _ _ h => h) (Or.inl ⟨by rfl, fun w _ => by first | (go_simp; done) | (go_simp; with_reducible rfl) | rfl⟩) hHeld ?_
    try simp only [Act.put, List.setIfInBounds_toArray, List.set_cons_zero, List.set_cons_succ]
    refine take_at (i := 25) (v := (.bool true)) 10 rfl rfl (by kernel_rfl) (by kernel_rfl) (by kernel_rfl) (fun _ _ _ h => h) (Or.inl ⟨by rfl, fun w _ => by first | (go_simp; done) | (go_simp; with_reducible rfl) | rfl⟩) hHeld ?_
    try simp only [Act.put, List.setIfInBounds_toArray, List.set_cons_zero, List.set_cons_succ]
    refine wpAnyH_done (by kernel_rfl) ?_ _
    clear hHeld
    go_wp2
    go_ret
    exact ⟨rfl, B2.out.trans (N8.out.mono B2.out.size)⟩
theorem DecodeNames_hand (A0_0 : Option Addr) (c0_0 : Nat) (l0_0 : List Int) (A0_1 : Option Addr) (c0_1 : Nat) (l0_1 : List S97) (A0_2 : Option Addr) (c0_2 : Nat) (l0_2 : List S87) (A0_3 : Option Addr) (c0_3 : Nat) (l0_3 : List S107) (A0_4 : Option Addr) (c0_4 : Nat) (l0_4 : List Int) (a0_5 a0_6 a0_7 : Int) (a1 a2 a3 a4_0 a4_1 a4_2 a4_3 a4_4 : Int) (W : World) (hr0_0 : Kd.C (Kd.int .u64) W A0_0 l0_0.length l0_0) (hc0_0 : l0_0.length ≤ c0_0) (hr0_1 : Kd.C k97 W A0_1 l0_1.length l0_1) (hc0_1 : l0_1.length ≤ c0_1) (hr0_2 : Kd.C k87 W A0_2 l0_2.length l0_2) (hc0_2 : l0_2.length ≤ c0_2) (hr0_3 : Kd.C k107 W A0_3 l0_3.length l0_3) (hc0_3 : l0_3.length ≤ c0_3) (hr0_4 : Kd.C (Kd.int .i64) W A0_4 l0_4.length l0_4) (hc0_4 : l0_4.length ≤ c0_4)
    {P0 P1 P2 P4 : Prop} (_h0 : P0) (_h1 : P1) (_h2 : P2) (h3 : (Lit.int .u8 a3).wf = true) (h4 : (Lit.int .u8 a4_0).wf = true ∧ (Lit.int .u8 a4_1).wf = true ∧ (Lit.int .u8 a4_2).wf = true ∧ P4) (hg : Glob W) :
    Calls Tryd.prog 6 #[.agg #[.slice A0_0 l0_0.length c0_0, .slice A0_1 l0_1.length c0_1, .slice A0_2 l0_2.length c0_2, .slice A0_3 l0_3.length c0_3, .slice A0_4 l0_4.length c0_4, .int .i64 a0_5, .int .i64 a0_6, .int .i64 a0_7], .int .i64 a1, .int .i64 a2, .int .u8 a3, .agg #[.int .u8 a4_0, .int .u8 a4_1, .int .u8 a4_2, .int .u32 a4_3, .int .u64 a4_4]] W fun e w' => e = .returned (.bool true) ∧ Below W.heap.size W w' :=
  DecodeNames_walk A0_0 c0_0 l0_0 A0_1 c0_1 l0_1 A0_2 c0_2 l0_2 A0_3 c0_3 l0_3 A0_4 c0_4 l0_4 a0_5 a0_6 a0_7 a1 a2 a3 a4_0 a4_1 a4_2 a4_3 a4_4 W hr0_0 hc0_0 hr0_1 hc0_1 hr0_2 hc0_2 hr0_3 hc0_3 hr0_4 hc0_4 (u8_of h3) (u8_of h4.2.1) (u8_of h4.2.2.1) hg
end Go.Proofs.YtoliipbmcekciaaDoor.QDd
