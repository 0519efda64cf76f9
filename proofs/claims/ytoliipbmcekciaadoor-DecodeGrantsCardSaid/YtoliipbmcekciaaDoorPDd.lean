/- Decode: the law DecodeGrants walked. -/
import Derived.Test.YtoliipbmcekciaaDoorJ2Dd
import Derived.Test.YtoliipbmcekciaaDoorADc
namespace Go.Proofs.YtoliipbmcekciaaDoor.QDd
open Go.RowKit Go.Proofs.YtoliipbmcekciaaDoorW.PrintWords Go.Proofs.YtoliipbmcekciaaDoorW.PrintLast Go.Proofs.YtoliipbmcekciaaDoorW.PrintMore
open Go.Proofs.YtoliipbmcekciaaDoor.QDc (obj_below take_at yields_blk load_blk load_any store_blk blk_setCells setAll far_setCells below_setCells Glob alive_calls)
set_option linter.unusedVariables false
set_option linter.unusedSimpArgs false
theorem needs_eq (a : Int) : ∃ n b, decode_Needs.f a = some (n, b) ∧ rampartref21_Needs.f 5 a = some (n, b) := by
  unfold decode_Needs.f rampartref21_Needs.f
  by_cases h3 : a = 3
  · subst h3; exact ⟨1, true, rfl, rfl⟩
  by_cases h7 : a = 7
  · subst h7; exact ⟨1, true, rfl, rfl⟩
  have e7 : (a == 7) = false := by simpa using h7
  rw [if_neg h3, if_neg h7, if_neg h3, e7, rampartref21_Needs.j0, if_neg (show ¬ false = true from by decide)]
  by_cases h4 : a = 4
  · rw [if_pos h4]; exact ⟨_, _, rfl, rfl⟩
  rw [if_neg h4]
  by_cases h5 : a = 5
  · rw [if_pos h5]; exact ⟨_, _, rfl, rfl⟩
  rw [if_neg h5]
  by_cases h2 : a = 2
  · rw [if_pos h2]; exact ⟨_, _, rfl, rfl⟩
  rw [if_neg h2]
  by_cases h6 : a = 6
  · rw [if_pos h6]; exact ⟨_, _, rfl, rfl⟩
  rw [if_neg h6]
  exact ⟨_, _, rfl, rfl⟩
theorem releases_eq (x0 : List Int) (x1 : List S97) (l : List S87) (x3 : List S107) (x4 : List Int) (a5 a6 a7 t g : Int) : ∃ r, decode_Releases.f x0 x1 l x3 x4 a5 a6 a7 t g = some r ∧ rampartref21_Releases.f x0 x1 l x3 x4 a5 a6 a7 t g = some r := by
  unfold decode_Releases.f rampartref21_Releases.f
  by_cases h0 : g ≥ 0
  · rw [if_pos h0]
    by_cases h1 : g < (x3.length : Int)
    · rw [if_pos h1, if_pos h0]; exact ⟨_, rfl, rfl⟩
    · rw [if_neg h1]; exact ⟨_, rfl, rfl⟩
  · rw [if_neg h0]; exact ⟨_, rfl, rfl⟩
set_option maxRecDepth 100000 in
set_option maxHeartbeats 4000000 in
theorem DecodeGrants_walk (A0_0 : Option Addr) (c0_0 : Nat) (l0_0 : List Int) (A0_1 : Option Addr) (c0_1 : Nat) (l0_1 : List S97) (A0_2 : Option Addr) (c0_2 : Nat) (l0_2 : List S87) (A0_3 : Option Addr) (c0_3 : Nat) (l0_3 : List S107) (A0_4 : Option Addr) (c0_4 : Nat) (l0_4 : List Int) (a0_5 a0_6 a0_7 : Int) (a1 a2 a3_0 a3_1 a4 a5 a6 : Int) (W : World) (hr0_0 : Kd.C (Kd.int .u64) W A0_0 l0_0.length l0_0) (hc0_0 : l0_0.length ≤ c0_0) (hr0_1 : Kd.C k97 W A0_1 l0_1.length l0_1) (hc0_1 : l0_1.length ≤ c0_1) (hr0_2 : Kd.C k87 W A0_2 l0_2.length l0_2) (hc0_2 : l0_2.length ≤ c0_2) (hr0_3 : Kd.C k107 W A0_3 l0_3.length l0_3) (hc0_3 : l0_3.length ≤ c0_3) (hr0_4 : Kd.C (Kd.int .i64) W A0_4 l0_4.length l0_4) (hc0_4 : l0_4.length ≤ c0_4) (h31 : U8 a3_1) (h4 : U8 a4) (h64 : ∀ x ∈ l0_0, U64 x) (hg : Glob W) :
    Calls Tryd.prog 8 #[.agg #[.slice A0_0 l0_0.length c0_0, .slice A0_1 l0_1.length c0_1, .slice A0_2 l0_2.length c0_2, .slice A0_3 l0_3.length c0_3, .slice A0_4 l0_4.length c0_4, .int .i64 a0_5, .int .i64 a0_6, .int .i64 a0_7], .int .i64 a1, .int .i64 a2, .agg #[.int .i64 a3_0, .int .u8 a3_1], .int .u8 a4, .int .i64 a5, .int .u8 a6] W fun e w' => e = .returned (.bool true) ∧ Below W.heap.size W w' := by
  have H00 := Aside0.mk (And.intro hr0_0 hc0_0)
  have H01 := Aside0.mk (And.intro hr0_1 hc0_1)
  have H02 := Aside0.mk (And.intro hr0_2 hc0_2)
  have H03 := Aside0.mk (And.intro hr0_3 hc0_3)
  have H04 := Aside0.mk (And.intro hr0_4 hc0_4)
  have HG := Aside0.mk hg
  have HU := Aside0.mk (And.intro h31 (And.intro h4 h64))
  clear h31 h4 h64
  clear hg hr0_0 hc0_0 hr0_1 hc0_1 hr0_2 hc0_2 hr0_3 hc0_3 hr0_4 hc0_4
  obtain ⟨b, hb, hsm⟩ := small_total l0_0 l0_1 l0_2 l0_3 l0_4 a0_5 a0_6 a0_7
  have HSM := Aside0.mk (And.intro hb hsm)
  clear hb hsm
  go_enter Tryd.func8, Tryd.ntmps8
  go_upto_region 1 with fail
  have B1 : Aside0 (Below W.heap.size W ((W.alloc (.cells #[.slice A0_0 l0_0.length c0_0, .slice A0_1 l0_1.length c0_1, .slice A0_2 l0_2.length c0_2, .slice A0_3 l0_3.length c0_3, .slice A0_4 l0_4.length c0_4, .int .i64 a0_5, .int .i64 a0_6, .int .i64 a0_7] 28)).alloc (.cells #[.int .i64 a3_0, .int .u8 a3_1] 59))) := ⟨((Below.refl _ W).alloc (Nat.le_refl _) _).alloc (by simp) _⟩
  have E0 : Aside0 (((W.alloc (.cells #[.slice A0_0 l0_0.length c0_0, .slice A0_1 l0_1.length c0_1, .slice A0_2 l0_2.length c0_2, .slice A0_3 l0_3.length c0_3, .slice A0_4 l0_4.length c0_4, .int .i64 a0_5, .int .i64 a0_6, .int .i64 a0_7] 28)).alloc (.cells #[.int .i64 a3_0, .int .u8 a3_1] 59)).heap[W.heap.size]? = some (.cells #[.slice A0_0 l0_0.length c0_0, .slice A0_1 l0_1.length c0_1, .slice A0_2 l0_2.length c0_2, .slice A0_3 l0_3.length c0_3, .slice A0_4 l0_4.length c0_4, .int .i64 a0_5, .int .i64 a0_6, .int .i64 a0_7] 28 (0, 0))) := ⟨((Below.heap_alloc _ _ _ (by simp)).trans (by have := World.alloc_heap_new W (.cells #[.slice A0_0 l0_0.length c0_0, .slice A0_1 l0_1.length c0_1, .slice A0_2 l0_2.length c0_2, .slice A0_3 l0_3.length c0_3, .slice A0_4 l0_4.length c0_4, .int .i64 a0_5, .int .i64 a0_6, .int .i64 a0_7] 28); exact this))⟩
  have E1 : Aside0 (((W.alloc (.cells #[.slice A0_0 l0_0.length c0_0, .slice A0_1 l0_1.length c0_1, .slice A0_2 l0_2.length c0_2, .slice A0_3 l0_3.length c0_3, .slice A0_4 l0_4.length c0_4, .int .i64 a0_5, .int .i64 a0_6, .int .i64 a0_7] 28)).alloc (.cells #[.int .i64 a3_0, .int .u8 a3_1] 59)).heap[W.heap.size + 1]? = some (.cells #[.int .i64 a3_0, .int .u8 a3_1] 59 (0, 0))) := ⟨(by have := World.alloc_heap_new (W.alloc (.cells #[.slice A0_0 l0_0.length c0_0, .slice A0_1 l0_1.length c0_1, .slice A0_2 l0_2.length c0_2, .slice A0_3 l0_3.length c0_3, .slice A0_4 l0_4.length c0_4, .int .i64 a0_5, .int .i64 a0_6, .int .i64 a0_7] 28)) (.cells #[.int .i64 a3_0, .int .u8 a3_1] 59); simpa [World.size_alloc] using this)⟩
  generalize ((W.alloc (.cells #[.slice A0_0 l0_0.length c0_0, .slice A0_1 l0_1.length c0_1, .slice A0_2 l0_2.length c0_2, .slice A0_3 l0_3.length c0_3, .slice A0_4 l0_4.length c0_4, .int .i64 a0_5, .int .i64 a0_6, .int .i64 a0_7] 28)).alloc (.cells #[.int .i64 a3_0, .int .u8 a3_1] 59)) = w1 at B1 E0 E1 ⊢
  cases b with
  | false =>
    go_wp2_with (first | ((with_reducible refine gate_ (.load 28 (.tmp 7)) rfl ?_); (try (refine gate_guard (by rfl) ?_; dsimp only)); refine load_blk rfl 28 (.tmp 7) rfl W.heap.size _ 28 rfl _ E0.out Tryd.underlying28 rfl (by kernel_rfl) ?_) | (go_at_call 15; refine (rampartlaw21_small.calls 50 A0_0 c0_0 l0_0 A0_1 c0_1 l0_1 A0_2 c0_2 l0_2 A0_3 c0_3 l0_3 A0_4 c0_4 l0_4 a0_5 a0_6 a0_7 _ _ (Kd.C_below H00.out.1 (B1.out)) H00.out.2 (Kd.C_below H01.out.1 (B1.out)) H01.out.2 (Kd.C_below H02.out.1 (B1.out)) H02.out.2 (Kd.C_below H03.out.1 (B1.out)) H03.out.2 (Kd.C_below H04.out.1 (B1.out)) H04.out.2 HSM.out.1).mono ?_; rintro e w2 ⟨rfl, hB⟩; have N2 := Aside0.mk hB; clear hB) | (go_at_call 14; refine (alive_calls _ (HG.out.below (B1.out.trans (N2.out.mono B1.out.size)))).mono ?_; rintro e w3 ⟨rfl, hb⟩; have N3 := Aside0.mk hb; clear hb))
    go_ret
    exact ⟨rfl, (B1.out.trans (N2.out.mono B1.out.size)).trans (N3.out.mono (B1.out.trans (N2.out.mono B1.out.size)).size)⟩
  | true =>
    obtain ⟨n, nb, hn1, hn2⟩ := needs_eq a6
    have HN := Aside0.mk (And.intro hn1 hn2)
    clear hn1 hn2
    go_upto_region 5 with (first | ((with_reducible refine gate_ (.load 28 (.tmp 7)) rfl ?_); (try (refine gate_guard (by rfl) ?_; dsimp only)); refine load_blk rfl 28 (.tmp 7) rfl W.heap.size _ 28 rfl _ E0.out Tryd.underlying28 rfl (by kernel_rfl) ?_) | (go_at_call 15; refine (rampartlaw21_small.calls 50 A0_0 c0_0 l0_0 A0_1 c0_1 l0_1 A0_2 c0_2 l0_2 A0_3 c0_3 l0_3 A0_4 c0_4 l0_4 a0_5 a0_6 a0_7 _ _ (Kd.C_below H00.out.1 (B1.out)) H00.out.2 (Kd.C_below H01.out.1 (B1.out)) H01.out.2 (Kd.C_below H02.out.1 (B1.out)) H02.out.2 (Kd.C_below H03.out.1 (B1.out)) H03.out.2 (Kd.C_below H04.out.1 (B1.out)) H04.out.2 HSM.out.1).mono ?_; rintro e w2 ⟨rfl, hB⟩; have N2 := Aside0.mk hB; clear hB) | (go_at_call 25; refine (decode_Needs.calls a6 n nb _ HN.out.1).mono ?_; rintro e w' ⟨rfl, ⟨nd, rfl⟩⟩) | (go_at_call 26; refine (rampartref21_Needs.calls 5 a6 n nb _ HN.out.2).mono ?_; rintro e w' ⟨rfl, ⟨ne, rfl⟩⟩))
    have B2 : Aside0 (Below W.heap.size W (w2.drewN (nd + ne))) := ⟨pw_below_drewN (B1.out.trans (N2.out.mono B1.out.size)) _⟩
    have F0 : Aside0 ((w2.drewN (nd + ne)).heap[W.heap.size]? = _) := Aside0.mk (blk_drewN (obj_below N2.out E0.out) _)
    have F1 : Aside0 ((w2.drewN (nd + ne)).heap[W.heap.size + 1]? = _) := Aside0.mk (blk_drewN (obj_below N2.out E1.out) _)
    generalize w2.drewN (nd + ne) = w3 at B2 F0 F1 ⊢
    have HS : Aside0 (Small l0_2) := ⟨small_of (HSM.out.2 (by trivial)).1 (HSM.out.2 (by trivial)).2.2.2.2.2⟩
    obtain ⟨q1, hq1⟩ : ∃ q, grantsB l0_0 l0_1 l0_2 a1 a2 a3_0 a3_1 a4 = q := ⟨_, rfl⟩
    obtain ⟨q2, hq2, hq3⟩ := releases_eq l0_0 l0_1 l0_2 l0_3 l0_4 a0_5 a0_6 a0_7 a1 a5
    have HQ := Aside0.mk (And.intro hq1 (And.intro hq2 hq3))
    clear hq1 hq2 hq3 E0 E1 N2 B1
    refine wp_region_held_drew (S := fun w' => Below w3.heap.size w3 w') (by kernel_rfl) (pw_below_drewN (Below.refl _ _) 1) (fun hHeld => ?_)
    generalize w3.drew = w4 at hHeld ⊢
    refine take_at (i := 0) (v := (.agg #[.slice A0_0 l0_0.length c0_0, .slice A0_1 l0_1.length c0_1, .slice A0_2 l0_2.length c0_2, .slice A0_3 l0_3.length c0_3, .slice A0_4 l0_4.length c0_4, .int .i64 a0_5, .int .i64 a0_6, .int .i64 a0_7])) 33 rfl rfl (by kernel_rfl) (by kernel_rfl) (by kernel_rfl) (fun _ _ _ h => h) (yields_blk (by rfl) 28 (.tmp 7) rfl (W.heap.size) _ 28 rfl _ (fun w' hS => obj_below hS F0.out) Tryd.underlying28 rfl (by kernel_rfl)) hHeld ?_
    try simp only [Act.put, List.setIfInBounds_toArray, List.set_cons_zero, List.set_cons_succ]
    refine take_at (i := 1) (v := (.int .i64 a1)) 34 rfl rfl (by kernel_rfl) (by kernel_rfl) (by kernel_rfl) (fun _ _ _ h => h) (Or.inl ⟨by rfl, fun w _ => by first | (go_simp; done) | (go_simp; with_reducible rfl) | rfl⟩) hHeld ?_
    try simp only [Act.put, List.setIfInBounds_toArray, List.set_cons_zero, List.set_cons_succ]
    refine take_at (i := 2) (v := (.int .i64 a2)) 35 rfl rfl (by kernel_rfl) (by kernel_rfl) (by kernel_rfl) (fun _ _ _ h => h) (Or.inl ⟨by rfl, fun w _ => by first | (go_simp; done) | (go_simp; with_reducible rfl) | rfl⟩) hHeld ?_
    try simp only [Act.put, List.setIfInBounds_toArray, List.set_cons_zero, List.set_cons_succ]
    refine take_at (i := 3) (v := (.agg #[.int .i64 a3_0, .int .u8 a3_1])) 36 rfl rfl (by kernel_rfl) (by kernel_rfl) (by kernel_rfl) (fun _ _ _ h => h) (yields_blk (by rfl) 59 (.tmp 10) rfl (W.heap.size + 1) _ 59 rfl _ (fun w' hS => obj_below hS F1.out) Tryd.underlying59 rfl (by kernel_rfl)) hHeld ?_
    try simp only [Act.put, List.setIfInBounds_toArray, List.set_cons_zero, List.set_cons_succ]
    refine take_at (i := 4) (v := (.int .u8 a4)) 37 rfl rfl (by kernel_rfl) (by kernel_rfl) (by kernel_rfl) (fun _ _ _ h => h) (Or.inl ⟨by rfl, fun w _ => by first | (go_simp; done) | (go_simp; with_reducible rfl) | rfl⟩) hHeld ?_
    try simp only [Act.put, List.setIfInBounds_toArray, List.set_cons_zero, List.set_cons_succ]
    refine take_at (i := 6) (v := (.agg #[.slice A0_0 l0_0.length c0_0, .slice A0_1 l0_1.length c0_1, .slice A0_2 l0_2.length c0_2, .slice A0_3 l0_3.length c0_3, .slice A0_4 l0_4.length c0_4, .int .i64 a0_5, .int .i64 a0_6, .int .i64 a0_7])) 39 rfl rfl (by kernel_rfl) (by kernel_rfl) (by kernel_rfl) (fun _ _ _ h => h) (yields_blk (by rfl) 28 (.tmp 7) rfl (W.heap.size) _ 28 rfl _ (fun w' hS => obj_below hS F0.out) Tryd.underlying28 rfl (by kernel_rfl)) hHeld ?_
    try simp only [Act.put, List.setIfInBounds_toArray, List.set_cons_zero, List.set_cons_succ]
    refine take_at (i := 7) (v := (.int .i64 a1)) 40 rfl rfl (by kernel_rfl) (by kernel_rfl) (by kernel_rfl) (fun _ _ _ h => h) (Or.inl ⟨by rfl, fun w _ => by first | (go_simp; done) | (go_simp; with_reducible rfl) | rfl⟩) hHeld ?_
    try simp only [Act.put, List.setIfInBounds_toArray, List.set_cons_zero, List.set_cons_succ]
    refine take_at (i := 8) (v := (.int .i64 a2)) 41 rfl rfl (by kernel_rfl) (by kernel_rfl) (by kernel_rfl) (fun _ _ _ h => h) (Or.inl ⟨by rfl, fun w _ => by first | (go_simp; done) | (go_simp; with_reducible rfl) | rfl⟩) hHeld ?_
    try simp only [Act.put, List.setIfInBounds_toArray, List.set_cons_zero, List.set_cons_succ]
    refine take_at (i := 9) (v := (.agg #[.int .i64 a3_0, .int .u8 a3_1])) 42 rfl rfl (by kernel_rfl) (by kernel_rfl) (by kernel_rfl) (fun _ _ _ h => h) (yields_blk (by rfl) 59 (.tmp 10) rfl (W.heap.size + 1) _ 59 rfl _ (fun w' hS => obj_below hS F1.out) Tryd.underlying59 rfl (by kernel_rfl)) hHeld ?_
    try simp only [Act.put, List.setIfInBounds_toArray, List.set_cons_zero, List.set_cons_succ]
    refine take_at (i := 10) (v := (.int .u8 a4)) 43 rfl rfl (by kernel_rfl) (by kernel_rfl) (by kernel_rfl) (fun _ _ _ h => h) (Or.inl ⟨by rfl, fun w _ => by first | (go_simp; done) | (go_simp; with_reducible rfl) | rfl⟩) hHeld ?_
    try simp only [Act.put, List.setIfInBounds_toArray, List.set_cons_zero, List.set_cons_succ]
    have N4 := Aside0.mk hHeld
    refine wpAnyH_ready (rs := [5]) (by kernel_rfl) (by simp) ?_
    refine AllReadyH.cons rfl (fun K hK => ?_) AllReadyH.nil
    go_simp
    go_wp2_with (first | (go_at_call 23; refine (Grants_calls (.slice A0_3 l0_3.length c0_3) (.slice A0_4 l0_4.length c0_4) (.int .i64 a0_5) (.int .i64 a0_6) (.int .i64 a0_7) A0_0 c0_0 l0_0 A0_1 c0_1 l0_1 A0_2 c0_2 l0_2 a1 a2 a3_0 a3_1 a4 _ (by rfl) (Kd.C_below H00.out.1 (B2.out.trans (N4.out.mono B2.out.size))) (Kd.C_below H01.out.1 (B2.out.trans (N4.out.mono B2.out.size))) H02.out.2 HS.out (Kd.C_below H02.out.1 (B2.out.trans (N4.out.mono B2.out.size)))).mono ?_; rintro e w5 ⟨rfl, hb⟩; rw [show (flowsB l0_0 l0_1 a1 a2 && (bits .and .u8 a3_1 4 != 0 && (bits .and .u8 a3_1 a4 == a4 && Rules3B l0_2 a3_0 a2 a4))) = q1 from HQ.out.1]; have N5 := Aside0.mk (below_step N4.out hb); clear hb))
    clear hHeld
    refine hK.out _ _ N5.out (fun hHeld => ?_)
    clear hK K
    try simp only [Act.put, List.setIfInBounds_toArray, List.set_cons_zero, List.set_cons_succ]
    refine wpAnyH_ready (rs := [11]) (by kernel_rfl) (by simp) ?_
    refine AllReadyH.cons rfl (fun K hK => ?_) AllReadyH.nil
    go_simp
    go_wp2_with (first | (go_at_call 27; refine (rampartref21_Grants.calls 1002 A0_0 c0_0 l0_0 A0_1 c0_1 l0_1 A0_2 c0_2 l0_2 A0_3 c0_3 l0_3 A0_4 c0_4 l0_4 a0_5 a0_6 a0_7 a1 a2 a3_0 a3_1 a4 q1 _ (Kd.C_below H00.out.1 (B2.out.trans (N5.out.mono B2.out.size))) H00.out.2 (Kd.C_below H01.out.1 (B2.out.trans (N5.out.mono B2.out.size))) H01.out.2 (Kd.C_below H02.out.1 (B2.out.trans (N5.out.mono B2.out.size))) H02.out.2 (Kd.C_below H03.out.1 (B2.out.trans (N5.out.mono B2.out.size))) H03.out.2 (Kd.C_below H04.out.1 (B2.out.trans (N5.out.mono B2.out.size))) H04.out.2 (by rw [RGrants_eq _ _ _ _ _ _ _ _ _ _ _ _ _ HU.out.2.2 HS.out HU.out.1 HU.out.2.1 1002 (by decide), HQ.out.1])).mono ?_; rintro e w6 ⟨rfl, hb⟩; have N6 := Aside0.mk (below_step N5.out hb); clear hb))
    clear hHeld
    refine hK.out _ _ N6.out (fun hHeld => ?_)
    clear hK K
    try simp only [Act.put, List.setIfInBounds_toArray, List.set_cons_zero, List.set_cons_succ]
    refine take_at (i := 12) (v := (.bool true)) 45 rfl rfl (by kernel_rfl) (by kernel_rfl) (by kernel_rfl) (fun _ _ _ h => h) (Or.inl ⟨by rfl, fun w _ => by first | (go_simp; done) | (go_simp; with_reducible rfl) | rfl⟩) hHeld ?_
    try simp only [Act.put, List.setIfInBounds_toArray, List.set_cons_zero, List.set_cons_succ]
    refine take_at (i := 13) (v := (.bool true)) 46 rfl rfl (by kernel_rfl) (by kernel_rfl) (by kernel_rfl) (fun _ _ _ h => h) (Or.inl ⟨by rfl, fun w _ => by first | (go_simp; done) | (go_simp; with_reducible rfl) | rfl⟩) hHeld ?_
    try simp only [Act.put, List.setIfInBounds_toArray, List.set_cons_zero, List.set_cons_succ]
    refine take_at (i := 14) (v := (.agg #[.slice A0_0 l0_0.length c0_0, .slice A0_1 l0_1.length c0_1, .slice A0_2 l0_2.length c0_2, .slice A0_3 l0_3.length c0_3, .slice A0_4 l0_4.length c0_4, .int .i64 a0_5, .int .i64 a0_6, .int .i64 a0_7])) 47 rfl rfl (by kernel_rfl) (by kernel_rfl) (by kernel_rfl) (fun _ _ _ h => h) (yields_blk (by rfl) 28 (.tmp 7) rfl (W.heap.size) _ 28 rfl _ (fun w' hS => obj_below hS F0.out) Tryd.underlying28 rfl (by kernel_rfl)) hHeld ?_
    try simp only [Act.put, List.setIfInBounds_toArray, List.set_cons_zero, List.set_cons_succ]
    refine take_at (i := 15) (v := (.int .i64 a1)) 48 rfl rfl (by kernel_rfl) (by kernel_rfl) (by kernel_rfl) (fun _ _ _ h => h) (Or.inl ⟨by rfl, fun w _ => by first | (go_simp; done) | (go_simp; with_reducible rfl) | rfl⟩) hHeld ?_
    try simp only [Act.put, List.setIfInBounds_toArray, List.set_cons_zero, List.set_cons_succ]
    refine take_at (i := 16) (v := (.int .i64 a5)) 49 rfl rfl (by kernel_rfl) (by kernel_rfl) (by kernel_rfl) (fun _ _ _ h => h) (Or.inl ⟨by rfl, fun w _ => by first | (go_simp; done) | (go_simp; with_reducible rfl) | rfl⟩) hHeld ?_
    try simp only [Act.put, List.setIfInBounds_toArray, List.set_cons_zero, List.set_cons_succ]
    refine take_at (i := 18) (v := (.agg #[.slice A0_0 l0_0.length c0_0, .slice A0_1 l0_1.length c0_1, .slice A0_2 l0_2.length c0_2, .slice A0_3 l0_3.length c0_3, .slice A0_4 l0_4.length c0_4, .int .i64 a0_5, .int .i64 a0_6, .int .i64 a0_7])) 51 rfl rfl (by kernel_rfl) (by kernel_rfl) (by kernel_rfl) (fun _ _ _ h => h) (yields_blk (by rfl) 28 (.tmp 7) rfl (W.heap.size) _ 28 rfl _ (fun w' hS => obj_below hS F0.out) Tryd.underlying28 rfl (by kernel_rfl)) hHeld ?_
    try simp only [Act.put, List.setIfInBounds_toArray, List.set_cons_zero, List.set_cons_succ]
    refine take_at (i := 19) (v := (.int .i64 a1)) 52 rfl rfl (by kernel_rfl) (by kernel_rfl) (by kernel_rfl) (fun _ _ _ h => h) (Or.inl ⟨by rfl, fun w _ => by first | (go_simp; done) | (go_simp; with_reducible rfl) | rfl⟩) hHeld ?_
    try simp only [Act.put, List.setIfInBounds_toArray, List.set_cons_zero, List.set_cons_succ]
    refine take_at (i := 20) (v := (.int .i64 a5)) 53 rfl rfl (by kernel_rfl) (by kernel_rfl) (by kernel_rfl) (fun _ _ _ h => h) (Or.inl ⟨by rfl, fun w _ => by first | (go_simp; done) | (go_simp; with_reducible rfl) | rfl⟩) hHeld ?_
    try simp only [Act.put, List.setIfInBounds_toArray, List.set_cons_zero, List.set_cons_succ]
    refine wpAnyH_ready (rs := [17]) (by kernel_rfl) (by simp) ?_
    refine AllReadyH.cons rfl (fun K hK => ?_) AllReadyH.nil
    go_simp
    go_wp2_with (first | (go_at_call 28; refine (decode_Releases.calls A0_0 c0_0 l0_0 A0_1 c0_1 l0_1 A0_2 c0_2 l0_2 A0_3 c0_3 l0_3 A0_4 c0_4 l0_4 a0_5 a0_6 a0_7 a1 a5 q2 _ (Kd.C_below H00.out.1 (B2.out.trans (N6.out.mono B2.out.size))) H00.out.2 (Kd.C_below H01.out.1 (B2.out.trans (N6.out.mono B2.out.size))) H01.out.2 (Kd.C_below H02.out.1 (B2.out.trans (N6.out.mono B2.out.size))) H02.out.2 (Kd.C_below H03.out.1 (B2.out.trans (N6.out.mono B2.out.size))) H03.out.2 (Kd.C_below H04.out.1 (B2.out.trans (N6.out.mono B2.out.size))) H04.out.2 HQ.out.2.1).mono ?_; rintro e w7 ⟨rfl, hb⟩; have N7 := Aside0.mk (below_step N6.out hb); clear hb))
    clear hHeld
    refine hK.out _ _ N7.out (fun hHeld => ?_)
    clear hK K
    try simp only [Act.put, List.setIfInBounds_toArray, List.set_cons_zero, List.set_cons_succ]
    refine wpAnyH_ready (rs := [21]) (by kernel_rfl) (by simp) ?_
    refine AllReadyH.cons rfl (fun K hK => ?_) AllReadyH.nil
    go_simp
    go_wp2_with (first | (go_at_call 29; refine (rampartref21_Releases.calls A0_0 c0_0 l0_0 A0_1 c0_1 l0_1 A0_2 c0_2 l0_2 A0_3 c0_3 l0_3 A0_4 c0_4 l0_4 a0_5 a0_6 a0_7 a1 a5 q2 _ (Kd.C_below H00.out.1 (B2.out.trans (N7.out.mono B2.out.size))) H00.out.2 (Kd.C_below H01.out.1 (B2.out.trans (N7.out.mono B2.out.size))) H01.out.2 (Kd.C_below H02.out.1 (B2.out.trans (N7.out.mono B2.out.size))) H02.out.2 (Kd.C_below H03.out.1 (B2.out.trans (N7.out.mono B2.out.size))) H03.out.2 (Kd.C_below H04.out.1 (B2.out.trans (N7.out.mono B2.out.size))) H04.out.2 HQ.out.2.2).mono ?_; rintro e w8 ⟨rfl, hb⟩; have N8 := Aside0.mk (below_step N7.out hb); clear hb))
    clear hHeld
    refine hK.out _ _ N8.out (fun hHeld => ?_)
    clear hK K
    try simp only [Act.put, List.setIfInBounds_toArray, List.set_cons_zero, List.set_cons_succ]
    refine take_at (i := 22) (v := (.bool true)) 55 rfl rfl (by kernel_rfl) (by kernel_rfl) (by kernel_rfl) (fun _ _ _ h => h) (Or.inl ⟨by rfl, fun w _ => by first | (go_simp; done) | (go_simp; with_reducible rfl) | rfl⟩) hHeld ?_
    try simp only [Act.put, List.setIfInBounds_toArray, List.set_cons_zero, List.set_cons_succ]
    refine take_at (i := 23) (v := (.bool true)) 56 rfl rfl (by kernel_rfl) (by kernel_rfl) (by kernel_rfl) (fun _ _ _ h => h) (Or.inl ⟨by rfl, fun w _ => by first | (go_simp; done) | (go_simp; with_reducible rfl) | rfl⟩) hHeld ?_
    try simp only [Act.put, List.setIfInBounds_toArray, List.set_cons_zero, List.set_cons_succ]
    refine take_at (i := 24) (v := (.bool true)) 57 rfl rfl (by kernel_rfl) (by kernel_rfl) (by kernel_rfl) (fun _ _ _ h => h) (Or.inl ⟨by rfl, fun w _ => by first | (go_simp; done) | (go_simp; with_reducible rfl) | rfl⟩) hHeld ?_
    try simp only [Act.put, List.setIfInBounds_toArray, List.set_cons_zero, List.set_cons_succ]
    refine take_at (i := 25) (v := (.int .u8 n)) 58 rfl rfl (by kernel_rfl) (by kernel_rfl) (by kernel_rfl) (fun _ _ _ h => h) (Or.inl ⟨by rfl, fun w _ => by first | (go_simp; done) | (go_simp; with_reducible rfl) | rfl⟩) hHeld ?_
    try simp only [Act.put, List.setIfInBounds_toArray, List.set_cons_zero, List.set_cons_succ]
    refine take_at (i := 26) (v := (.int .u8 n)) 59 rfl rfl (by kernel_rfl) (by kernel_rfl) (by kernel_rfl) (fun _ _ _ h => h) (Or.inl ⟨by rfl, fun w _ => by first | (go_simp; done) | (go_simp; with_reducible rfl) | rfl⟩) hHeld ?_
    try simp only [Act.put, List.setIfInBounds_toArray, List.set_cons_zero, List.set_cons_succ]
    refine take_at (i := 27) (v := (.bool true)) 60 rfl rfl (by kernel_rfl) (by kernel_rfl) (by kernel_rfl) (fun _ _ _ h => h) (Or.inl ⟨by rfl, fun w _ => by first | (go_simp; done) | (go_simp; with_reducible rfl) | rfl⟩) hHeld ?_
    try simp only [Act.put, List.setIfInBounds_toArray, List.set_cons_zero, List.set_cons_succ]
    refine take_at (i := 28) (v := (.bool true)) 61 rfl rfl (by kernel_rfl) (by kernel_rfl) (by kernel_rfl) (fun _ _ _ h => h) (Or.inl ⟨by rfl, fun w _ => by first | (go_simp; done) | (go_simp; with_reducible rfl) | rfl⟩) hHeld ?_
    try simp only [Act.put, List.setIfInBounds_toArray, List.set_cons_zero, List.set_cons_succ]
    refine take_at (i := 29) (v := (.bool true)) 62 rfl rfl (by kernel_rfl) (by kernel_rfl) (by kernel_rfl) (fun _ _ _ h => h) (Or.inl ⟨by rfl, fun w _ => by first | (go_simp; done) | (go_simp; with_reducible rfl) | rfl⟩) hHeld ?_
    try simp only [Act.put, List.setIfInBounds_toArray, List.set_cons_zero, List.set_cons_succ]
    refine take_at (i := 30) (v := (.bool nb)) 63 rfl rfl (by kernel_rfl) (by kernel_rfl) (by kernel_rfl) (fun _ _ _ h => h) (Or.inl ⟨by rfl, fun w _ => by first | (go_simp; done) | (go_simp; with_reducible rfl) | rfl⟩) hHeld ?_
    try simp only [Act.put, List.setIfInBounds_toArray, List.set_cons_zero, List.set_cons_succ]
    refine take_at (i := 31) (v := (.bool nb)) 64 rfl rfl (by kernel_rfl) (by kernel_rfl) (by kernel_rfl) (fun _ _ _ h => h) (Or.inl ⟨by rfl, fun w _ => by first | (go_simp; done) | (go_simp; with_reducible rfl) | rfl⟩) hHeld ?_
    try simp only [Act.put, List.setIfInBounds_toArray, List.set_cons_zero, List.set_cons_succ]
    refine take_at (i := 32) (v := (.bool true)) 65 rfl rfl (by kernel_rfl) (by kernel_rfl) (by kernel_rfl) (fun _ _ _ h => h) (Or.inl ⟨by rfl, fun w _ => by first | (go_simp; done) | (go_simp; with_reducible rfl) | rfl⟩) hHeld ?_
    try simp only [Act.put, List.setIfInBounds_toArray, List.set_cons_zero, List.set_cons_succ]
    refine take_at (i := 33) (v := (.bool true)) 66 rfl rfl (by kernel_rfl) (by kernel_rfl) (by kernel_rfl) (fun _ _ _ h => h) (Or.inl ⟨by rfl, fun w _ => by first | (go_simp; done) | (go_simp; with_reducible rfl) | rfl⟩) hHeld ?_
    try simp only [Act.put, List.setIfInBounds_toArray, List.set_cons_zero, List.set_cons_succ]
    refine take_at (i := 34) (v := (.bool true)) 67 rfl rfl (by kernel_rfl) (by kernel_rfl) (by kernel_rfl) (fun _ _ _ h => h) (Or.inl ⟨by rfl, fun w _ => by first | (go_simp; done) | (go_simp; with_reducible rfl) | rfl⟩) hHeld ?_
    try simp only [Act.put, List.setIfInBounds_toArray, List.set_cons_zero, List.set_cons_succ]
    refine wpAnyH_ready (rs := [35]) (by kernel_rfl) (by simp) ?_
    refine AllReadyH.cons rfl (fun K hK => ?_) AllReadyH.nil
    go_simp
    go_wp2_with (first | (go_at_call 14; refine (alive_calls _ (HG.out.below (B2.out.trans (N8.out.mono B2.out.size)))).mono ?_; rintro e w9 ⟨rfl, hb⟩; have N9 := Aside0.mk (below_step N8.out hb); clear hb))
    clear hHeld
    refine hK.out _ _ N9.out (fun hHeld => ?_)
    clear hK K
    try simp only [Act.put, List.setIfInBounds_toArray, List.set_cons_zero, List.set_cons_succ]
    refine take_at (i := 36) (v := (.bool true)) 69 rfl rfl (by kernel_rfl) (by kernel_rfl) (by kernel_rfl) (fun _ _ _ h => h) (Or.inl ⟨by rfl, fun w _ => by first | (go_simp; done) | (go_simp; with_reducible rfl) | rfl⟩) hHeld ?_
    try simp only [Act.put, List.setIfInBounds_toArray, List.set_cons_zero, List.set_cons_succ]
    refine take_at (i := 37) (v := (.bool true)) 14 rfl rfl (by kernel_rfl) (by kernel_rfl) (by kernel_rfl) (fun _ _ _ h => h) (Or.inl ⟨by rfl, fun w _ => by first | (go_simp; done) | (go_simp; with_reducible rfl) | rfl⟩) hHeld ?_
    try simp only [Act.put, List.setIfInBounds_toArray, List.set_cons_zero, List.set_cons_succ]
    refine wpAnyH_done (by kernel_rfl) ?_ _
    clear hHeld
    go_wp2
    go_ret
    exact ⟨rfl, B2.out.trans (N9.out.mono B2.out.size)⟩
theorem DecodeGrants_hand (A0_0 : Option Addr) (c0_0 : Nat) (l0_0 : List Int) (A0_1 : Option Addr) (c0_1 : Nat) (l0_1 : List S97) (A0_2 : Option Addr) (c0_2 : Nat) (l0_2 : List S87) (A0_3 : Option Addr) (c0_3 : Nat) (l0_3 : List S107) (A0_4 : Option Addr) (c0_4 : Nat) (l0_4 : List Int) (a0_5 a0_6 a0_7 : Int) (a1 a2 a3_0 a3_1 a4 a5 a6 : Int) (W : World) (hr0_0 : Kd.C (Kd.int .u64) W A0_0 l0_0.length l0_0) (hc0_0 : l0_0.length ≤ c0_0) (hr0_1 : Kd.C k97 W A0_1 l0_1.length l0_1) (hc0_1 : l0_1.length ≤ c0_1) (hr0_2 : Kd.C k87 W A0_2 l0_2.length l0_2) (hc0_2 : l0_2.length ≤ c0_2) (hr0_3 : Kd.C k107 W A0_3 l0_3.length l0_3) (hc0_3 : l0_3.length ≤ c0_3) (hr0_4 : Kd.C (Kd.int .i64) W A0_4 l0_4.length l0_4) (hc0_4 : l0_4.length ≤ c0_4)
    {P0 P1 P2 P3 P5 P6 : Prop} (h0 : (l0_0.length * 8 ≤ 140737488351232 ∧ ∀ x ∈ l0_0, (Lit.int .u64 x).wf = true) ∧ P0) (_h1 : P1) (_h2 : P2) (h3 : P3 ∧ (Lit.int .u8 a3_1).wf = true) (h4 : (Lit.int .u8 a4).wf = true) (_h5 : P5) (_h6 : P6) (hg : Glob W) :
    Calls Tryd.prog 8 #[.agg #[.slice A0_0 l0_0.length c0_0, .slice A0_1 l0_1.length c0_1, .slice A0_2 l0_2.length c0_2, .slice A0_3 l0_3.length c0_3, .slice A0_4 l0_4.length c0_4, .int .i64 a0_5, .int .i64 a0_6, .int .i64 a0_7], .int .i64 a1, .int .i64 a2, .agg #[.int .i64 a3_0, .int .u8 a3_1], .int .u8 a4, .int .i64 a5, .int .u8 a6] W fun e w' => e = .returned (.bool true) ∧ Below W.heap.size W w' :=
  DecodeGrants_walk A0_0 c0_0 l0_0 A0_1 c0_1 l0_1 A0_2 c0_2 l0_2 A0_3 c0_3 l0_3 A0_4 c0_4 l0_4 a0_5 a0_6 a0_7 a1 a2 a3_0 a3_1 a4 a5 a6 W hr0_0 hc0_0 hr0_1 hc0_1 hr0_2 hc0_2 hr0_3 hc0_3 hr0_4 hc0_4 (u8_of h3.2) (u8_of h4) (fun x hx => u64_of (h0.1.2 x hx)) hg
end Go.Proofs.YtoliipbmcekciaaDoor.QDd
