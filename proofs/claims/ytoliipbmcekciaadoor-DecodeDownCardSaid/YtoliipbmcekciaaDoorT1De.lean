/- Decode: the law DecodeDown walked. -/
import Derived.Test.YtoliipbmcekciaaDoorRCDe
import Derived.Test.YtoliipbmcekciaaDoorHDd
import Derived.Test.YtoliipbmcekciaaDoorADc
namespace Go.Proofs.YtoliipbmcekciaaDoor.QDd
open Go.RowKit Go.Proofs.YtoliipbmcekciaaDoorW.PrintWords Go.Proofs.YtoliipbmcekciaaDoorW.PrintLast Go.Proofs.YtoliipbmcekciaaDoorW.PrintMore
open Go.Proofs.YtoliipbmcekciaaDoor.QDc (obj_below take_at yields_blk load_blk load_any store_blk blk_setCells setAll far_setCells below_setCells Glob alive_calls)
set_option linter.unusedVariables false
set_option linter.unusedSimpArgs false
structure LX (cv xv : Array Value) (t : TypeId) (W w : World) : Prop where
  b : Below W.heap.size W w
  e0 : w.heap[W.heap.size]? = some (.cells cv 28 (0, 0))
  e1 : w.heap[W.heap.size + 1]? = some (.cells xv t (0, 0))
theorem LX.start (cv xv : Array Value) (t : TypeId) (W : World) : LX cv xv t W ((W.alloc (.cells cv 28)).alloc (.cells xv t)) :=
  ⟨((Below.refl _ W).alloc (Nat.le_refl _) _).alloc (by simp) _, (Below.heap_alloc _ _ _ (by simp)).trans (World.alloc_heap_new W _), by have := World.alloc_heap_new (W.alloc (.cells cv 28)) (.cells xv t); rwa [World.size_alloc] at this⟩
theorem LX.below {cv xv : Array Value} {t : TypeId} {W w w2 : World} (h : LX cv xv t W w) (hb : Below w.heap.size w w2) : LX cv xv t W w2 := ⟨h.b.trans (hb.mono h.b.size), obj_below hb h.e0, obj_below hb h.e1⟩
set_option maxRecDepth 100000 in
set_option maxHeartbeats 2000000 in
theorem DecodeDown_walk (A0_0 : Option Addr) (c0_0 : Nat) (l0_0 : List Int) (A0_1 : Option Addr) (c0_1 : Nat) (l0_1 : List S97) (A0_2 : Option Addr) (c0_2 : Nat) (l0_2 : List S87) (A0_3 : Option Addr) (c0_3 : Nat) (l0_3 : List S107) (A0_4 : Option Addr) (c0_4 : Nat) (l0_4 : List Int) (a0_5 a0_6 a0_7 : Int) (a1 a2 a3 a4_0 a4_1 a5 a6 : Int) (W : World) (hr0_0 : Kd.C (Kd.int .u64) W A0_0 l0_0.length l0_0) (hc0_0 : l0_0.length ≤ c0_0) (hr0_1 : Kd.C k97 W A0_1 l0_1.length l0_1) (hc0_1 : l0_1.length ≤ c0_1) (hr0_2 : Kd.C k87 W A0_2 l0_2.length l0_2) (hc0_2 : l0_2.length ≤ c0_2) (hr0_3 : Kd.C k107 W A0_3 l0_3.length l0_3) (hc0_3 : l0_3.length ≤ c0_3) (hr0_4 : Kd.C (Kd.int .i64) W A0_4 l0_4.length l0_4) (hc0_4 : l0_4.length ≤ c0_4) (h41 : U8 a4_1) (h5 : U8 a5) (h6 : U8 a6) (h64 : ∀ x ∈ l0_0, U64 x) (hg : Glob W) :
    Calls Tryd.prog 7 #[.agg #[.slice A0_0 l0_0.length c0_0, .slice A0_1 l0_1.length c0_1, .slice A0_2 l0_2.length c0_2, .slice A0_3 l0_3.length c0_3, .slice A0_4 l0_4.length c0_4, .int .i64 a0_5, .int .i64 a0_6, .int .i64 a0_7], .int .i64 a1, .int .i64 a2, .int .i64 a3, .agg #[.int .i64 a4_0, .int .u8 a4_1], .int .u8 a5, .int .u8 a6] W fun e w' => e = .returned (.bool true) ∧ Below W.heap.size W w' := by
  obtain ⟨C, hC⟩ : ∃ C : Cf, C = ⟨A0_0, c0_0, l0_0, A0_1, c0_1, l0_1, A0_2, c0_2, l0_2, A0_3, c0_3, l0_3, A0_4, c0_4, l0_4, a0_5, a0_6, a0_7⟩ := ⟨_, rfl⟩
  have HCD := Aside0.mk hC
  have HAT : Aside0 (Cf.At ⟨A0_0, c0_0, l0_0, A0_1, c0_1, l0_1, A0_2, c0_2, l0_2, A0_3, c0_3, l0_3, A0_4, c0_4, l0_4, a0_5, a0_6, a0_7⟩ W) := ⟨⟨hr0_0, hc0_0, hr0_1, hc0_1, hr0_2, hc0_2, hr0_3, hc0_3, hr0_4, hc0_4⟩⟩
  have HU : Aside0 (∀ x ∈ l0_0, U64 x) := ⟨h64⟩
  have HV := Aside0.mk (And.intro h41 (And.intro h5 h6))
  have HG := Aside0.mk hg
  clear hC h64 h41 h5 h6 hg hr0_0 hc0_0 hr0_1 hc0_1 hr0_2 hc0_2 hr0_3 hc0_3 hr0_4 hc0_4
  obtain ⟨b, hb, hsm⟩ := small_total l0_0 l0_1 l0_2 l0_3 l0_4 a0_5 a0_6 a0_7
  have HSM := Aside0.mk (And.intro hb hsm)
  clear hb hsm
  go_enter Tryd.func7, Tryd.ntmps7
  go_upto_region 1 with fail
  have HX := Aside0.mk (LX.start #[.slice A0_0 l0_0.length c0_0, .slice A0_1 l0_1.length c0_1, .slice A0_2 l0_2.length c0_2, .slice A0_3 l0_3.length c0_3, .slice A0_4 l0_4.length c0_4, .int .i64 a0_5, .int .i64 a0_6, .int .i64 a0_7] #[.int .i64 a4_0, .int .u8 a4_1] 59 W)
  generalize ((W.alloc (.cells #[.slice A0_0 l0_0.length c0_0, .slice A0_1 l0_1.length c0_1, .slice A0_2 l0_2.length c0_2, .slice A0_3 l0_3.length c0_3, .slice A0_4 l0_4.length c0_4, .int .i64 a0_5, .int .i64 a0_6, .int .i64 a0_7] 28)).alloc (.cells #[.int .i64 a4_0, .int .u8 a4_1] 59)) = w1 at HX ⊢
  cases b with
  | false =>
    go_wp2_with (first | ((with_reducible refine gate_ (.load 28 (.tmp 7)) rfl ?_); (try (refine gate_guard (by rfl) ?_; dsimp only)); refine load_blk rfl 28 (.tmp 7) rfl W.heap.size _ 28 rfl _ (HX.out).e0 Tryd.underlying28 rfl (by kernel_rfl) ?_) | (go_at_call 15; refine (rampartlaw21_small.calls 50 A0_0 c0_0 l0_0 A0_1 c0_1 l0_1 A0_2 c0_2 l0_2 A0_3 c0_3 l0_3 A0_4 c0_4 l0_4 a0_5 a0_6 a0_7 _ _ (HAT.out.below HX.out.b).r0 HAT.out.h0 (HAT.out.below HX.out.b).r1 HAT.out.h1 (HAT.out.below HX.out.b).r2 HAT.out.h2 (HAT.out.below HX.out.b).r3 HAT.out.h3 (HAT.out.below HX.out.b).r4 HAT.out.h4 HSM.out.1).mono ?_; rintro e w2 ⟨rfl, hB⟩; have N2 := Aside0.mk hB; clear hB) | (go_at_call 14; refine (alive_calls _ (HG.out.below ((HX.out.below N2.out).b))).mono ?_; rintro e w3 ⟨rfl, hb⟩; have Aw3 := Aside0.mk hb; clear hb))
    go_ret
    exact ⟨rfl, (HX.out.below N2.out).b.trans (Aw3.out.mono (HX.out.below N2.out).b.size)⟩
  | true =>
    go_upto_region 3 with (first | ((with_reducible refine gate_ (.load 28 (.tmp 7)) rfl ?_); (try (refine gate_guard (by rfl) ?_; dsimp only)); refine load_blk rfl 28 (.tmp 7) rfl W.heap.size _ 28 rfl _ (HX.out).e0 Tryd.underlying28 rfl (by kernel_rfl) ?_) | (go_at_call 15; refine (rampartlaw21_small.calls 50 A0_0 c0_0 l0_0 A0_1 c0_1 l0_1 A0_2 c0_2 l0_2 A0_3 c0_3 l0_3 A0_4 c0_4 l0_4 a0_5 a0_6 a0_7 _ _ (HAT.out.below HX.out.b).r0 HAT.out.h0 (HAT.out.below HX.out.b).r1 HAT.out.h1 (HAT.out.below HX.out.b).r2 HAT.out.h2 (HAT.out.below HX.out.b).r3 HAT.out.h3 (HAT.out.below HX.out.b).r4 HAT.out.h4 HSM.out.1).mono ?_; rintro e w2 ⟨rfl, hB⟩; have N2 := Aside0.mk hB; clear hB))
    have HX2 := Aside0.mk (HX.out.below N2.out)
    have HL : Aside0 (Cf.Lim C) := ⟨⟨by rw [HCD.out]; show l0_0.length ≤ 1000; have := (HSM.out.2 (by trivial)).2.1; omega, by rw [HCD.out]; show l0_1.length ≤ 1000; have := (HSM.out.2 (by trivial)).2.2.1; omega, by rw [HCD.out]; exact small_of (HSM.out.2 (by trivial)).1 (HSM.out.2 (by trivial)).2.2.2.2.2, by rw [HCD.out]; show l0_3.length ≤ 1000; have := (HSM.out.2 (by trivial)).2.2.2.1; omega, by rw [HCD.out]; show l0_4.length ≤ 1000; have := (HSM.out.2 (by trivial)).2.2.2.2.1; omega, by rw [HCD.out]; exact HU.out⟩⟩
    have HS : Aside0 (Small l0_2) := ⟨by have := HL.out.l2; rw [HCD.out] at this; exact this⟩
    obtain ⟨⟨cn, ce⟩, hck⟩ : ∃ q, chkF ⟨A0_0, c0_0, l0_0, A0_1, c0_1, l0_1, A0_2, c0_2, l0_2, A0_3, c0_3, l0_3, A0_4, c0_4, l0_4, a0_5, a0_6, a0_7⟩ = q := ⟨_, rfl⟩
    have HCK := Aside0.mk hck
    clear hck
    have HO : Aside0 ((([.slice A0_3 l0_3.length c0_3, .slice A0_4 l0_4.length c0_4, .int .i64 a0_5, .int .i64 a0_6, .int .i64 a0_7] : List Value).all (·.oneCell')) = true) := ⟨by rfl⟩
    by_cases hce : ce = 0
    · have d0 : (ce != 0) = false := by simpa using hce
      have d0' : decide (ce = 0) = true := decide_eq_true hce
      have HGD : Aside0 (Good C) := ⟨chk_good (by rw [HCD.out, HCK.out]; exact hce)⟩
      clear hce
      obtain ⟨q1, hq1⟩ : ∃ q, grB l0_0 l0_1 l0_2 a1 a2 a4_0 a4_1 a5 = q := ⟨_, rfl⟩
      have HQ1 := Aside0.mk hq1
      clear hq1
      cases q1 with
      | false =>
        go_wp2_with (first | ((with_reducible refine gate_ (.load 28 (.tmp 7)) rfl ?_); (try (refine gate_guard (by rfl) ?_; dsimp only)); refine load_blk rfl 28 (.tmp 7) rfl W.heap.size _ 28 rfl _ (by first | exact HX2.out.e0 | exact (HX2.out.below N3.out).e0) Tryd.underlying28 rfl (by kernel_rfl) ?_) | ((with_reducible refine gate_ (.load 59 (.tmp 11)) rfl ?_); (try (refine gate_guard (by rfl) ?_; dsimp only)); refine load_blk rfl 59 (.tmp 11) rfl (W.heap.size + 1) _ 59 rfl _ (HX2.out.below N3.out).e1 Tryd.underlying59 rfl (by kernel_rfl) ?_) | (go_at_call 16; refine (Check_calls ⟨A0_0, c0_0, l0_0, A0_1, c0_1, l0_1, A0_2, c0_2, l0_2, A0_3, c0_3, l0_3, A0_4, c0_4, l0_4, a0_5, a0_6, a0_7⟩ _ (HAT.out.below HX2.out.b) (HCD.out ▸ HL.out)).mono ?_; rintro e w3 ⟨rfl, hb⟩; rw [HCK.out]; have N3 := Aside0.mk hb; clear hb) | (go_at_call 23; (with_reducible refine (Grants_calls (.slice A0_3 l0_3.length c0_3) (.slice A0_4 l0_4.length c0_4) (.int .i64 a0_5) (.int .i64 a0_6) (.int .i64 a0_7) A0_0 c0_0 l0_0 A0_1 c0_1 l0_1 A0_2 c0_2 l0_2 a1 a2 a4_0 a4_1 a5 _ HO.out (HAT.out.below ((HX2.out.below N3.out).b)).r0 (HAT.out.below ((HX2.out.below N3.out).b)).r1 HAT.out.h2 HS.out (HAT.out.below ((HX2.out.below N3.out).b)).r2).mono ?_); rintro e w4 ⟨rfl, hb⟩; rw [show (flowsB l0_0 l0_1 a1 a2 && (bits .and .u8 a4_1 4 != 0 && (bits .and .u8 a4_1 a5 == a5 && Rules3B l0_2 a4_0 a2 a5))) = _ from HQ1.out]; have N4 := Aside0.mk hb; clear hb) | (go_at_call 14; refine (alive_calls _ (HG.out.below (((HX2.out.below N3.out).below N4.out).b))).mono ?_; rintro e w5 ⟨rfl, hb⟩; have Aw5 := Aside0.mk hb; clear hb))
        go_ret
        exact ⟨rfl, ((HX2.out.below N3.out).below N4.out).b.trans (Aw5.out.mono ((HX2.out.below N3.out).below N4.out).b.size)⟩
      | true =>
        have HNM := Aside0.mk (grants_named HQ1.out)
        go_upto_region 6 with (first | ((with_reducible refine gate_ (.load 28 (.tmp 7)) rfl ?_); (try (refine gate_guard (by rfl) ?_; dsimp only)); refine load_blk rfl 28 (.tmp 7) rfl W.heap.size _ 28 rfl _ (by first | exact HX2.out.e0 | exact (HX2.out.below N3.out).e0) Tryd.underlying28 rfl (by kernel_rfl) ?_) | ((with_reducible refine gate_ (.load 59 (.tmp 11)) rfl ?_); (try (refine gate_guard (by rfl) ?_; dsimp only)); refine load_blk rfl 59 (.tmp 11) rfl (W.heap.size + 1) _ 59 rfl _ (HX2.out.below N3.out).e1 Tryd.underlying59 rfl (by kernel_rfl) ?_) | (go_at_call 16; refine (Check_calls ⟨A0_0, c0_0, l0_0, A0_1, c0_1, l0_1, A0_2, c0_2, l0_2, A0_3, c0_3, l0_3, A0_4, c0_4, l0_4, a0_5, a0_6, a0_7⟩ _ (HAT.out.below HX2.out.b) (HCD.out ▸ HL.out)).mono ?_; rintro e w3 ⟨rfl, hb⟩; rw [HCK.out]; have N3 := Aside0.mk hb; clear hb) | (go_at_call 23; (with_reducible refine (Grants_calls (.slice A0_3 l0_3.length c0_3) (.slice A0_4 l0_4.length c0_4) (.int .i64 a0_5) (.int .i64 a0_6) (.int .i64 a0_7) A0_0 c0_0 l0_0 A0_1 c0_1 l0_1 A0_2 c0_2 l0_2 a1 a2 a4_0 a4_1 a5 _ HO.out (HAT.out.below ((HX2.out.below N3.out).b)).r0 (HAT.out.below ((HX2.out.below N3.out).b)).r1 HAT.out.h2 HS.out (HAT.out.below ((HX2.out.below N3.out).b)).r2).mono ?_); rintro e w4 ⟨rfl, hb⟩; rw [show (flowsB l0_0 l0_1 a1 a2 && (bits .and .u8 a4_1 4 != 0 && (bits .and .u8 a4_1 a5 == a5 && Rules3B l0_2 a4_0 a2 a5))) = _ from HQ1.out]; have N4 := Aside0.mk hb; clear hb))
        have HX4 := Aside0.mk ((HX2.out.below N3.out).below N4.out)
        clear N3 N4 HX2 HX N2
        have x0 : w4.cell? ⟨W.heap.size + 1, 0, none⟩ = some (.int .i64 a4_0) := by simp [World.cell?, HX4.out.e1]
        have x1 : w4.cell? ⟨W.heap.size + 1, 1, none⟩ = some (.int .u8 a4_1) := by simp [World.cell?, HX4.out.e1]
        go_upto_region 8 with (first | ((with_reducible refine gate_ (.load 28 (.tmp 7)) rfl ?_); (try (refine gate_guard (by rfl) ?_; dsimp only)); refine load_blk rfl 28 (.tmp 7) rfl W.heap.size _ 28 rfl _ (HX4.out).e0 Tryd.underlying28 rfl (by kernel_rfl) ?_) | (go_at_call 17; refine (Named_calls (.slice A0_0 l0_0.length c0_0) (.slice A0_1 l0_1.length c0_1) (.slice A0_3 l0_3.length c0_3) (.slice A0_4 l0_4.length c0_4) (.int .i64 a0_5) (.int .i64 a0_6) (.int .i64 a0_7) A0_2 c0_2 l0_2 a4_0 a2 a5 _ (by rfl) HAT.out.h2 HS.out (HAT.out.below HX4.out.b).r2).mono ?_; rintro e w5 ⟨rfl, hb⟩; rw [HNM.out.1]; have N5 := Aside0.mk hb; have x1' := pw_cell_below hb x1; clear hb) | (go_at_call 24; refine (rampartref11_Has.calls 9 a4_1 a5 true _ (by rw [RHasAll HV.out.1 HV.out.2.1 9 (by decide), HNM.out.2])).mono ?_; rintro e w6 ⟨rfl, hb⟩; have N6 := Aside0.mk (Drawn0.below hb); clear hb))
        have HX6 := Aside0.mk ((HX4.out.below N5.out).below N6.out)
        clear x0 x1 x1' N5 N6 HX4
        have x0 : w6.cell? ⟨W.heap.size + 1, 0, none⟩ = some (.int .i64 a4_0) := by simp [World.cell?, HX6.out.e1]
        go_upto_region 9 with fail
        have hy := World.alloc_heap_new w6 (.cells #[.int .i64 a4_0, .int .u8 a5] 59)
        have HX7 := Aside0.mk (HX6.out.below ((Below.refl _ w6).alloc (Nat.le_refl _) (.cells #[.int .i64 a4_0, .int .u8 a5] 59)))
        generalize (w6.alloc (.cells #[.int .i64 a4_0, .int .u8 a5] 59)) = w7 at hy HX7 ⊢
        clear HX6 x0
        generalize w6.heap.size = n6 at hy ⊢
        have HY := Aside0.mk hy
        clear hy
        obtain ⟨q2, hq2⟩ : ∃ q, grB l0_0 l0_1 l0_2 a2 a3 a4_0 a5 a6 = q := ⟨_, rfl⟩
        have HQ2 := Aside0.mk hq2
        clear hq2
        cases q2 with
        | false =>
          go_wp2_with (first | ((with_reducible refine gate_ (.load 28 (.tmp 7)) rfl ?_); (try (refine gate_guard (by rfl) ?_; dsimp only)); refine load_blk rfl 28 (.tmp 7) rfl W.heap.size _ 28 rfl _ (HX7.out).e0 Tryd.underlying28 rfl (by kernel_rfl) ?_) | ((with_reducible refine gate_ (.load 59 (.tmp 17)) rfl ?_); (try (refine gate_guard (by rfl) ?_; dsimp only)); refine load_blk rfl 59 (.tmp 17) rfl n6 _ 59 rfl _ (HY.out) Tryd.underlying59 rfl (by kernel_rfl) ?_) | (go_at_call 23; (with_reducible refine (Grants_calls (.slice A0_3 l0_3.length c0_3) (.slice A0_4 l0_4.length c0_4) (.int .i64 a0_5) (.int .i64 a0_6) (.int .i64 a0_7) A0_0 c0_0 l0_0 A0_1 c0_1 l0_1 A0_2 c0_2 l0_2 a2 a3 a4_0 a5 a6 _ HO.out (HAT.out.below (HX7.out.b)).r0 (HAT.out.below (HX7.out.b)).r1 HAT.out.h2 HS.out (HAT.out.below (HX7.out.b)).r2).mono ?_); rintro e w8 ⟨rfl, hb⟩; rw [show (flowsB l0_0 l0_1 a2 a3 && (bits .and .u8 a5 4 != 0 && (bits .and .u8 a5 a6 == a6 && Rules3B l0_2 a4_0 a3 a6))) = _ from HQ2.out]; have N8 := Aside0.mk hb; clear hb) | (go_at_call 14; refine (alive_calls _ (HG.out.below ((HX7.out.below N8.out).b))).mono ?_; rintro e w9 ⟨rfl, hb⟩; have Aw9 := Aside0.mk hb; clear hb))
          go_ret
          exact ⟨rfl, (HX7.out.below N8.out).b.trans (Aw9.out.mono (HX7.out.below N8.out).b.size)⟩
        | true =>
          have HG3 : Aside0 (grB l0_0 l0_1 l0_2 a1 a3 a4_0 a4_1 a6 = true) := ⟨by have hL := HL.out; have hr := HGD.out.r; rw [HCD.out] at hL hr; exact grants_down hL hr HV.out.1 HV.out.2.1 HV.out.2.2 HQ1.out HQ2.out⟩
          go_wp2_with (first | (have _h := HX7; ((with_reducible refine gate_ (.load 28 (.tmp 7)) rfl ?_); (try (refine gate_guard (by rfl) ?_; dsimp only)); refine load_blk rfl 28 (.tmp 7) rfl W.heap.size _ 28 rfl _ (HX7.out.below N8.out).e0 Tryd.underlying28 rfl (by kernel_rfl) ?_)) | ((with_reducible refine gate_ (.load 28 (.tmp 7)) rfl ?_); (try (refine gate_guard (by rfl) ?_; dsimp only)); refine load_blk rfl 28 (.tmp 7) rfl W.heap.size _ 28 rfl _ (HX7.out).e0 Tryd.underlying28 rfl (by kernel_rfl) ?_) | ((with_reducible refine gate_ (.load 59 (.tmp 17)) rfl ?_); (try (refine gate_guard (by rfl) ?_; dsimp only)); refine load_blk rfl 59 (.tmp 17) rfl n6 _ 59 rfl _ (HY.out) Tryd.underlying59 rfl (by kernel_rfl) ?_) | ((with_reducible refine gate_ (.load 59 (.tmp 11)) rfl ?_); (try (refine gate_guard (by rfl) ?_; dsimp only)); refine load_blk rfl 59 (.tmp 11) rfl (W.heap.size + 1) _ 59 rfl _ (HX7.out.below N8.out).e1 Tryd.underlying59 rfl (by kernel_rfl) ?_) | (go_at_call 23; (with_reducible refine (Grants_calls (.slice A0_3 l0_3.length c0_3) (.slice A0_4 l0_4.length c0_4) (.int .i64 a0_5) (.int .i64 a0_6) (.int .i64 a0_7) A0_0 c0_0 l0_0 A0_1 c0_1 l0_1 A0_2 c0_2 l0_2 a1 a3 a4_0 a4_1 a6 _ HO.out (HAT.out.below ((HX7.out.below N8.out).b)).r0 (HAT.out.below ((HX7.out.below N8.out).b)).r1 HAT.out.h2 HS.out (HAT.out.below ((HX7.out.below N8.out).b)).r2).mono ?_); rintro e w9 ⟨rfl, hb⟩; rw [show (flowsB l0_0 l0_1 a1 a3 && (bits .and .u8 a4_1 4 != 0 && (bits .and .u8 a4_1 a6 == a6 && Rules3B l0_2 a4_0 a3 a6))) = _ from HG3.out]; have N9 := Aside0.mk hb; clear hb) | (go_at_call 23; (with_reducible refine (Grants_calls (.slice A0_3 l0_3.length c0_3) (.slice A0_4 l0_4.length c0_4) (.int .i64 a0_5) (.int .i64 a0_6) (.int .i64 a0_7) A0_0 c0_0 l0_0 A0_1 c0_1 l0_1 A0_2 c0_2 l0_2 a2 a3 a4_0 a5 a6 _ HO.out (HAT.out.below (HX7.out.b)).r0 (HAT.out.below (HX7.out.b)).r1 HAT.out.h2 HS.out (HAT.out.below (HX7.out.b)).r2).mono ?_); rintro e w8 ⟨rfl, hb⟩; rw [show (flowsB l0_0 l0_1 a2 a3 && (bits .and .u8 a5 4 != 0 && (bits .and .u8 a5 a6 == a6 && Rules3B l0_2 a4_0 a3 a6))) = _ from HQ2.out]; have N8 := Aside0.mk hb; clear hb) | (go_at_call 14; refine (alive_calls _ (HG.out.below (((HX7.out.below N8.out).below N9.out).b))).mono ?_; rintro e w10 ⟨rfl, hb⟩; have Aw10 := Aside0.mk hb; clear hb))
          go_ret
          exact ⟨rfl, ((HX7.out.below N8.out).below N9.out).b.trans (Aw10.out.mono ((HX7.out.below N8.out).below N9.out).b.size)⟩
    · have d0 : (ce != 0) = true := by simpa using hce
      have d0' : decide (ce = 0) = false := decide_eq_false hce
      clear hce
      go_wp2_with (first | ((with_reducible refine gate_ (.load 28 (.tmp 7)) rfl ?_); (try (refine gate_guard (by rfl) ?_; dsimp only)); refine load_blk rfl 28 (.tmp 7) rfl W.heap.size _ 28 rfl _ (HX2.out).e0 Tryd.underlying28 rfl (by kernel_rfl) ?_) | (go_at_call 16; refine (Check_calls ⟨A0_0, c0_0, l0_0, A0_1, c0_1, l0_1, A0_2, c0_2, l0_2, A0_3, c0_3, l0_3, A0_4, c0_4, l0_4, a0_5, a0_6, a0_7⟩ _ (HAT.out.below HX2.out.b) (HCD.out ▸ HL.out)).mono ?_; rintro e w3 ⟨rfl, hb⟩; rw [HCK.out]; have N3 := Aside0.mk hb; clear hb) | (go_at_call 14; refine (alive_calls _ (HG.out.below ((HX2.out.below N3.out).b))).mono ?_; rintro e w5 ⟨rfl, hb⟩; have Aw5 := Aside0.mk hb; clear hb))
      go_ret
      exact ⟨rfl, (HX2.out.below N3.out).b.trans (Aw5.out.mono (HX2.out.below N3.out).b.size)⟩

theorem DecodeDown_hand (A0_0 : Option Addr) (c0_0 : Nat) (l0_0 : List Int) (A0_1 : Option Addr) (c0_1 : Nat) (l0_1 : List S97) (A0_2 : Option Addr) (c0_2 : Nat) (l0_2 : List S87) (A0_3 : Option Addr) (c0_3 : Nat) (l0_3 : List S107) (A0_4 : Option Addr) (c0_4 : Nat) (l0_4 : List Int) (a0_5 a0_6 a0_7 : Int) (a1 a2 a3 a4_0 a4_1 a5 a6 : Int) (W : World) (hr0_0 : Kd.C (Kd.int .u64) W A0_0 l0_0.length l0_0) (hc0_0 : l0_0.length ≤ c0_0) (hr0_1 : Kd.C k97 W A0_1 l0_1.length l0_1) (hc0_1 : l0_1.length ≤ c0_1) (hr0_2 : Kd.C k87 W A0_2 l0_2.length l0_2) (hc0_2 : l0_2.length ≤ c0_2) (hr0_3 : Kd.C k107 W A0_3 l0_3.length l0_3) (hc0_3 : l0_3.length ≤ c0_3) (hr0_4 : Kd.C (Kd.int .i64) W A0_4 l0_4.length l0_4) (hc0_4 : l0_4.length ≤ c0_4)
    {P0 P1 P2 P3 P4 : Prop} (h0 : (l0_0.length * 8 ≤ 140737488351232 ∧ ∀ x ∈ l0_0, (Lit.int .u64 x).wf = true) ∧ P0) (_h1 : P1) (_h2 : P2) (_h3 : P3) (h4 : P4 ∧ (Lit.int .u8 a4_1).wf = true) (h5 : (Lit.int .u8 a5).wf = true) (h6 : (Lit.int .u8 a6).wf = true) (hg : Glob W) :
    Calls Tryd.prog 7 #[.agg #[.slice A0_0 l0_0.length c0_0, .slice A0_1 l0_1.length c0_1, .slice A0_2 l0_2.length c0_2, .slice A0_3 l0_3.length c0_3, .slice A0_4 l0_4.length c0_4, .int .i64 a0_5, .int .i64 a0_6, .int .i64 a0_7], .int .i64 a1, .int .i64 a2, .int .i64 a3, .agg #[.int .i64 a4_0, .int .u8 a4_1], .int .u8 a5, .int .u8 a6] W fun e w' => e = .returned (.bool true) ∧ Below W.heap.size W w' :=
  DecodeDown_walk A0_0 c0_0 l0_0 A0_1 c0_1 l0_1 A0_2 c0_2 l0_2 A0_3 c0_3 l0_3 A0_4 c0_4 l0_4 a0_5 a0_6 a0_7 a1 a2 a3 a4_0 a4_1 a5 a6 W hr0_0 hc0_0 hr0_1 hc0_1 hr0_2 hc0_2 hr0_3 hc0_3 hr0_4 hc0_4 (u8_of h4.2) (u8_of h5) (u8_of h6) (fun x hx => u64_of (h0.1.2 x hx)) hg
end Go.Proofs.YtoliipbmcekciaaDoor.QDd
