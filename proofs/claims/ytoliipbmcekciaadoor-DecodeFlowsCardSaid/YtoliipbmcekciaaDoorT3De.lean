/- Decode: the law DecodeFlows walked. -/
import Derived.Test.YtoliipbmcekciaaDoorT2De
import Derived.Test.YtoliipbmcekciaaDoorJDd
import Derived.Test.YtoliipbmcekciaaDoorGDd
import Derived.Test.YtoliipbmcekciaaDoorADc
namespace Go.Proofs.YtoliipbmcekciaaDoor.QDd
open Go.RowKit Go.Proofs.YtoliipbmcekciaaDoorW.PrintWords Go.Proofs.YtoliipbmcekciaaDoorW.PrintLast Go.Proofs.YtoliipbmcekciaaDoorW.PrintMore
open Go.Proofs.YtoliipbmcekciaaDoor.QDc (obj_below take_at yields_blk load_blk load_any store_blk blk_setCells setAll far_setCells below_setCells Glob alive_calls)
set_option linter.unusedVariables false
set_option linter.unusedSimpArgs false
theorem seek_at (t : Int) : ∀ (l : List Int), 0 ≤ seek l t → l.getD (seek l t).toNat 0 = t
  | [], h => absurd h (by unfold seek; decide)
  | x :: xs, h => by
    unfold seek at h ⊢
    by_cases e : x = t
    · rw [if_pos e]; exact e
    · rw [if_neg e] at h ⊢
      by_cases g : seek xs t < 0
      · rw [if_pos g] at h; exact absurd h (by decide)
      · rw [if_neg g] at h ⊢
        have := seek_at t xs (by omega)
        rw [show (seek xs t + 1).toNat = (seek xs t).toNat + 1 by omega, List.getD_cons_succ]
        exact this
theorem getD_map {α : Type} (f : α → Int) (z : α) (l : List α) (i : Nat) (hi : i < l.length) : (l.map f).getD i 0 = f (l.getD i z) := by
  rw [List.getD_eq_getElem?_getD, List.getD_eq_getElem?_getD, List.getElem?_map, List.getElem?_eq_getElem hi]
  rfl
theorem lane_at {l : List S87} {n t : Int} (h : 0 ≤ laneS l n t) : ∃ i, i < (rd_T87 l n).f1.length ∧ lanT (rd_T87 l n) i = t := by
  obtain ⟨_, _, e, h2⟩ := laneS_in h
  have h3 := seek_at t _ h
  have hi : (laneS l n t).toNat < (rd_T87 l n).f1.length := by omega
  refine ⟨(laneS l n t).toNat, hi, ?_⟩
  rw [show seek ((chF l n).f1.map (·.f0)) t = laneS l n t from rfl, e, getD_map _ z103 _ _ hi] at h3
  exact h3
theorem recv_at {l : List S87} {n t : Int} (h : 0 ≤ recvS l n t) : ∃ i, i < (rd_T87 l n).f2.length ∧ recT (rd_T87 l n) i = t := by
  obtain ⟨_, _, e, h2⟩ := recvS_in h
  have h3 := seek_at t _ h
  have hi : (recvS l n t).toNat < (rd_T87 l n).f2.length := by omega
  refine ⟨(recvS l n t).toNat, hi, ?_⟩
  rw [show seek ((chF l n).f2.map (·.f0)) t = recvS l n t from rfl, e, getD_map _ z105 _ _ hi] at h3
  exact h3
theorem lanE_ok {C : Cf} {x : S87} {i : Nat} (h : lanE C x i = 0) : isTB C (lanT x i) = true ∧ hasBit (rd C.l0 (labT C (lanT x i))) x.f0 = true := by
  unfold lanE at h
  split at h
  · exact absurd h (by decide)
  · split at h
    · exact absurd h (by decide)
    · split at h
      · exact absurd h (by decide)
      · rename_i h1 _ h2
        simp only [Bool.not_eq_false, Bool.and_eq_true] at h1 h2
        exact ⟨h1.1, h2⟩
theorem recE_ok {C : Cf} {x : S87} {i : Nat} (h : recE C x i = 0) : hasBit (rd C.l0 x.f0) (labT C (recT x i)) = true := by
  unfold recE at h
  split at h
  · exact absurd h (by decide)
  · split at h
    · exact absurd h (by decide)
    · split at h
      · exact absurd h (by decide)
      · rename_i _ _ h2
        simpa using h2
theorem low_flow {C : Cf} (hL : C.Lim) (G : Good C) {ch a b : Int} (h1 : Rules3B C.l2 ch a 1 = true) (h2 : Rules3B C.l2 ch b 2 = true) : isTB C a = true ∧ isTB C b = true ∧ hasBit (rd C.l0 (labT C a)) (labT C b) = true := by
  unfold Rules3B at h1 h2
  simp only [Bool.and_eq_true] at h1 h2
  have s1 := h1.2.1
  have s2 := h2.2.2
  unfold sendsB at s1
  unfold receivesB at s2
  rw [show hasB 1 1 = true by decide +kernel, Bool.not_true, Bool.or_false] at s1
  rw [show hasB 2 2 = true by decide +kernel, Bool.not_true, Bool.or_false] at s2
  have s1 := of_decide_eq_true s1
  have s2 := of_decide_eq_true s2
  obtain ⟨c0, c1, _, _⟩ := laneS_in s1
  obtain ⟨i, hi, ei⟩ := lane_at s1
  obtain ⟨k, hk, ek⟩ := recv_at s2
  obtain ⟨m, rfl⟩ := Int.eq_ofNat_of_zero_le c0
  have hc := G.c m (by omega)
  unfold chE at hc
  by_cases hl : isLB C (rd_T87 C.l2 (m : Int)).f0 = false
  · rw [if_pos hl] at hc; exact absurd hc (by decide)
  rw [if_neg hl] at hc
  have hl0 : isLB C (rd_T87 C.l2 (m : Int)).f0 = true := by simpa using hl
  unfold isLB at hl0
  have hl0 := of_decide_eq_true hl0
  by_cases hf : lanF C (rd_T87 C.l2 (m : Int)) = 0
  · rw [if_pos hf] at hc
    have e1 := lanE_ok (scan_zero _ _ hf i (Nat.zero_le _) (by omega))
    have e2' := scan_zero _ _ hc k (Nat.zero_le _) (by omega)
    have e2 := recE_ok e2'
    have e3 := recE_ten e2'
    rw [ei] at e1
    rw [ek] at e2 e3
    refine ⟨e1.1, e3, ?_⟩
    have hla := G.t.lab e1.1
    obtain ⟨x, hx⟩ := Int.eq_ofNat_of_zero_le hla.1
    obtain ⟨y, hy⟩ := Int.eq_ofNat_of_zero_le hl0.1
    have e1 := e1.2
    unfold labT at e1 ⊢
    unfold labT at e2
    rw [hx] at e1 hla ⊢
    rw [hy] at e1 e2 hl0
    exact r02_trans hL.u G.r (by omega) (by omega) e1 e2
  · rw [if_neg hf] at hc; exact absurd hc hf
theorem bit_at {o : Int} {i : Nat} (h : U64 o) (hi : i < 64) (hb : hasBit o (i : Int) = true) : bits .and .u64 (o / 2 ^ i) 1 = 1 := by
  obtain ⟨n, rfl⟩ := Int.eq_ofNat_of_zero_le h.1
  have hn : n < 18446744073709551616 := by have := h.2; omega
  rw [hasBit_nat n i hn hi] at hb
  have e : ((n : Int) / 2 ^ i) = ((n / 2 ^ i : Nat) : Int) := by push_cast; rfl
  have hle : n / 2 ^ i ≤ n := Nat.div_le_self _ _
  rw [e, show (1 : Int) = ((1 : Nat) : Int) from rfl, bits_and_u64_nat _ 1 (by omega) (by decide), Nat.and_one_is_mod]
  rw [Nat.testBit_eq_decide_div_mod_eq] at hb
  have := of_decide_eq_true hb
  omega
structure FX (cv : Array Value) (W w : World) : Prop where
  b : Below W.heap.size W w
  e0 : w.heap[W.heap.size]? = some (.cells cv 28 (0, 0))
theorem FX.start (cv : Array Value) (W : World) : FX cv W (W.alloc (.cells cv 28)) := ⟨(Below.refl _ W).alloc (Nat.le_refl _) _, World.alloc_heap_new W _⟩
theorem FX.below {cv : Array Value} {W w w2 : World} (h : FX cv W w) (hb : Below w.heap.size w w2) : FX cv W w2 := ⟨h.b.trans (hb.mono h.b.size), obj_below hb h.e0⟩
set_option maxRecDepth 100000 in
set_option maxHeartbeats 2000000 in
theorem DecodeFlows_walk (A0_0 : Option Addr) (c0_0 : Nat) (l0_0 : List Int) (A0_1 : Option Addr) (c0_1 : Nat) (l0_1 : List S97) (A0_2 : Option Addr) (c0_2 : Nat) (l0_2 : List S87) (A0_3 : Option Addr) (c0_3 : Nat) (l0_3 : List S107) (A0_4 : Option Addr) (c0_4 : Nat) (l0_4 : List Int) (a0_5 a0_6 a0_7 : Int) (a1 a2 a3 : Int) (W : World) (hr0_0 : Kd.C (Kd.int .u64) W A0_0 l0_0.length l0_0) (hc0_0 : l0_0.length ≤ c0_0) (hr0_1 : Kd.C k97 W A0_1 l0_1.length l0_1) (hc0_1 : l0_1.length ≤ c0_1) (hr0_2 : Kd.C k87 W A0_2 l0_2.length l0_2) (hc0_2 : l0_2.length ≤ c0_2) (hr0_3 : Kd.C k107 W A0_3 l0_3.length l0_3) (hc0_3 : l0_3.length ≤ c0_3) (hr0_4 : Kd.C (Kd.int .i64) W A0_4 l0_4.length l0_4) (hc0_4 : l0_4.length ≤ c0_4) (h64 : ∀ x ∈ l0_0, U64 x) (hg : Glob W) :
    Calls Tryd.prog 5 #[.agg #[.slice A0_0 l0_0.length c0_0, .slice A0_1 l0_1.length c0_1, .slice A0_2 l0_2.length c0_2, .slice A0_3 l0_3.length c0_3, .slice A0_4 l0_4.length c0_4, .int .i64 a0_5, .int .i64 a0_6, .int .i64 a0_7], .int .i64 a1, .int .i64 a2, .int .i64 a3] W fun e w' => e = .returned (.bool true) ∧ Below W.heap.size W w' := by
  obtain ⟨C, hC⟩ : ∃ C : Cf, C = ⟨A0_0, c0_0, l0_0, A0_1, c0_1, l0_1, A0_2, c0_2, l0_2, A0_3, c0_3, l0_3, A0_4, c0_4, l0_4, a0_5, a0_6, a0_7⟩ := ⟨_, rfl⟩
  have HCD := Aside0.mk hC
  have HAT : Aside0 (Cf.At ⟨A0_0, c0_0, l0_0, A0_1, c0_1, l0_1, A0_2, c0_2, l0_2, A0_3, c0_3, l0_3, A0_4, c0_4, l0_4, a0_5, a0_6, a0_7⟩ W) := ⟨⟨hr0_0, hc0_0, hr0_1, hc0_1, hr0_2, hc0_2, hr0_3, hc0_3, hr0_4, hc0_4⟩⟩
  have HU : Aside0 (∀ x ∈ l0_0, U64 x) := ⟨h64⟩
  have HG := Aside0.mk hg
  clear hC h64 hg hr0_0 hc0_0 hr0_1 hc0_1 hr0_2 hc0_2 hr0_3 hc0_3 hr0_4 hc0_4
  obtain ⟨b, hb, hsm⟩ := small_total l0_0 l0_1 l0_2 l0_3 l0_4 a0_5 a0_6 a0_7
  have HSM := Aside0.mk (And.intro hb hsm)
  clear hb hsm
  go_enter Tryd.func5, Tryd.ntmps5
  go_upto_region 1 with fail
  have HX := Aside0.mk (FX.start #[.slice A0_0 l0_0.length c0_0, .slice A0_1 l0_1.length c0_1, .slice A0_2 l0_2.length c0_2, .slice A0_3 l0_3.length c0_3, .slice A0_4 l0_4.length c0_4, .int .i64 a0_5, .int .i64 a0_6, .int .i64 a0_7] W)
  generalize W.alloc (.cells #[.slice A0_0 l0_0.length c0_0, .slice A0_1 l0_1.length c0_1, .slice A0_2 l0_2.length c0_2, .slice A0_3 l0_3.length c0_3, .slice A0_4 l0_4.length c0_4, .int .i64 a0_5, .int .i64 a0_6, .int .i64 a0_7] 28) = w1 at HX ⊢
  cases b with
  | false =>
    go_wp2_with (first | ((with_reducible refine gate_ (.load 28 (.tmp 4)) rfl ?_); (try (refine gate_guard (by rfl) ?_; dsimp only)); refine load_blk rfl 28 (.tmp 4) rfl W.heap.size _ 28 rfl _ (HX.out).e0 Tryd.underlying28 rfl (by kernel_rfl) ?_) | (go_at_call 15; refine (rampartlaw21_small.calls 50 A0_0 c0_0 l0_0 A0_1 c0_1 l0_1 A0_2 c0_2 l0_2 A0_3 c0_3 l0_3 A0_4 c0_4 l0_4 a0_5 a0_6 a0_7 _ _ (HAT.out.below HX.out.b).r0 HAT.out.h0 (HAT.out.below HX.out.b).r1 HAT.out.h1 (HAT.out.below HX.out.b).r2 HAT.out.h2 (HAT.out.below HX.out.b).r3 HAT.out.h3 (HAT.out.below HX.out.b).r4 HAT.out.h4 HSM.out.1).mono ?_; rintro e w2 ⟨rfl, hB⟩; have N2 := Aside0.mk hB; clear hB) | (go_at_call 14; refine (alive_calls _ (HG.out.below ((HX.out.below N2.out).b))).mono ?_; rintro e w3 ⟨rfl, hb⟩; have Aw3 := Aside0.mk hb; clear hb))
    go_ret
    exact ⟨rfl, (HX.out.below N2.out).b.trans (Aw3.out.mono (HX.out.below N2.out).b.size)⟩
  | true =>
    go_upto_region 3 with (first | ((with_reducible refine gate_ (.load 28 (.tmp 4)) rfl ?_); (try (refine gate_guard (by rfl) ?_; dsimp only)); refine load_blk rfl 28 (.tmp 4) rfl W.heap.size _ 28 rfl _ (HX.out).e0 Tryd.underlying28 rfl (by kernel_rfl) ?_) | (go_at_call 15; refine (rampartlaw21_small.calls 50 A0_0 c0_0 l0_0 A0_1 c0_1 l0_1 A0_2 c0_2 l0_2 A0_3 c0_3 l0_3 A0_4 c0_4 l0_4 a0_5 a0_6 a0_7 _ _ (HAT.out.below HX.out.b).r0 HAT.out.h0 (HAT.out.below HX.out.b).r1 HAT.out.h1 (HAT.out.below HX.out.b).r2 HAT.out.h2 (HAT.out.below HX.out.b).r3 HAT.out.h3 (HAT.out.below HX.out.b).r4 HAT.out.h4 HSM.out.1).mono ?_; rintro e w2 ⟨rfl, hB⟩; have N2 := Aside0.mk hB; clear hB))
    have HX2 := Aside0.mk (HX.out.below N2.out)
    have HL : Aside0 (Cf.Lim C) := ⟨⟨by rw [HCD.out]; show l0_0.length ≤ 1000; have := (HSM.out.2 (by trivial)).2.1; omega, by rw [HCD.out]; show l0_1.length ≤ 1000; have := (HSM.out.2 (by trivial)).2.2.1; omega, by rw [HCD.out]; exact small_of (HSM.out.2 (by trivial)).1 (HSM.out.2 (by trivial)).2.2.2.2.2, by rw [HCD.out]; show l0_3.length ≤ 1000; have := (HSM.out.2 (by trivial)).2.2.2.1; omega, by rw [HCD.out]; show l0_4.length ≤ 1000; have := (HSM.out.2 (by trivial)).2.2.2.2.1; omega, by rw [HCD.out]; exact HU.out⟩⟩
    have HS : Aside0 (Small l0_2) := ⟨by have := HL.out.l2; rw [HCD.out] at this; exact this⟩
    obtain ⟨⟨cn, ce⟩, hck⟩ : ∃ q, chkF ⟨A0_0, c0_0, l0_0, A0_1, c0_1, l0_1, A0_2, c0_2, l0_2, A0_3, c0_3, l0_3, A0_4, c0_4, l0_4, a0_5, a0_6, a0_7⟩ = q := ⟨_, rfl⟩
    have HCK := Aside0.mk hck
    clear hck
    have HO : Aside0 ((([.slice A0_0 l0_0.length c0_0, .slice A0_1 l0_1.length c0_1, .slice A0_3 l0_3.length c0_3, .slice A0_4 l0_4.length c0_4, .int .i64 a0_5, .int .i64 a0_6, .int .i64 a0_7] : List Value).all (·.oneCell')) = true) := ⟨by rfl⟩
    clear N2 HX
    by_cases hce : ce = 0
    · subst hce
      have HGD : Aside0 (Good C) := ⟨chk_good (by rw [HCD.out, HCK.out])⟩
      go_upto_region 4 with (first | ((with_reducible refine gate_ (.load 28 (.tmp 4)) rfl ?_); (try (refine gate_guard (by rfl) ?_; dsimp only)); refine load_blk rfl 28 (.tmp 4) rfl W.heap.size _ 28 rfl _ (HX2.out).e0 Tryd.underlying28 rfl (by kernel_rfl) ?_) | (go_at_call 16; refine (Check_calls ⟨A0_0, c0_0, l0_0, A0_1, c0_1, l0_1, A0_2, c0_2, l0_2, A0_3, c0_3, l0_3, A0_4, c0_4, l0_4, a0_5, a0_6, a0_7⟩ _ (HAT.out.below HX2.out.b) (HCD.out ▸ HL.out)).mono ?_; rintro e w3 ⟨rfl, hb⟩; rw [HCK.out]; have N3 := Aside0.mk hb; clear hb))
      have HX3 := Aside0.mk (HX2.out.below N3.out)
      clear HX2 N3
      obtain ⟨q1, hq1⟩ : ∃ q, Rules3B l0_2 a1 a2 1 = q := ⟨_, rfl⟩
      obtain ⟨q2, hq2⟩ : ∃ q, Rules3B l0_2 a1 a3 2 = q := ⟨_, rfl⟩
      have HQ1 := Aside0.mk hq1
      have HQ2 := Aside0.mk hq2
      clear hq1 hq2
      cases q1 with
      | false =>
        go_wp2_with (first | ((with_reducible refine gate_ (.load 28 (.tmp 4)) rfl ?_); (try (refine gate_guard (by rfl) ?_; dsimp only)); refine load_blk rfl 28 (.tmp 4) rfl W.heap.size _ 28 rfl _ (by first | exact HX3.out.e0 | exact (HX3.out.below N4.out).e0) Tryd.underlying28 rfl (by kernel_rfl) ?_) | (go_at_call 17; (with_reducible refine (Named_calls (.slice A0_0 l0_0.length c0_0) (.slice A0_1 l0_1.length c0_1) (.slice A0_3 l0_3.length c0_3) (.slice A0_4 l0_4.length c0_4) (.int .i64 a0_5) (.int .i64 a0_6) (.int .i64 a0_7) A0_2 c0_2 l0_2 a1 a2 1 _ HO.out HAT.out.h2 HS.out (HAT.out.below (HX3.out.b)).r2).mono ?_); rintro e w4 ⟨rfl, hb⟩; rw [HQ1.out]; have N4 := Aside0.mk hb; clear hb) | (go_at_call 14; refine (alive_calls _ (HG.out.below ((HX3.out.below N4.out).b))).mono ?_; rintro e w5 ⟨rfl, hb⟩; have Aw5 := Aside0.mk hb; clear hb))
        go_ret
        exact ⟨rfl, (HX3.out.below N4.out).b.trans (Aw5.out.mono (HX3.out.below N4.out).b.size)⟩
      | true =>
        cases q2 with
        | false =>
          go_wp2_with (first | ((with_reducible refine gate_ (.load 28 (.tmp 4)) rfl ?_); (try (refine gate_guard (by rfl) ?_; dsimp only)); refine load_blk rfl 28 (.tmp 4) rfl W.heap.size _ 28 rfl _ (by first | exact HX3.out.e0 | exact (HX3.out.below N4.out).e0) Tryd.underlying28 rfl (by kernel_rfl) ?_) | (go_at_call 17; (with_reducible refine (Named_calls (.slice A0_0 l0_0.length c0_0) (.slice A0_1 l0_1.length c0_1) (.slice A0_3 l0_3.length c0_3) (.slice A0_4 l0_4.length c0_4) (.int .i64 a0_5) (.int .i64 a0_6) (.int .i64 a0_7) A0_2 c0_2 l0_2 a1 a2 1 _ HO.out HAT.out.h2 HS.out (HAT.out.below (HX3.out.b)).r2).mono ?_); rintro e w4 ⟨rfl, hb⟩; rw [HQ1.out]; have N4 := Aside0.mk hb; clear hb) | (go_at_call 17; (with_reducible refine (Named_calls (.slice A0_0 l0_0.length c0_0) (.slice A0_1 l0_1.length c0_1) (.slice A0_3 l0_3.length c0_3) (.slice A0_4 l0_4.length c0_4) (.int .i64 a0_5) (.int .i64 a0_6) (.int .i64 a0_7) A0_2 c0_2 l0_2 a1 a3 2 _ HO.out HAT.out.h2 HS.out (HAT.out.below ((HX3.out.below N4.out).b)).r2).mono ?_); rintro e w5 ⟨rfl, hb⟩; rw [HQ2.out]; have N5 := Aside0.mk hb; clear hb) | (go_at_call 14; refine (alive_calls _ (HG.out.below (((HX3.out.below N4.out).below N5.out).b))).mono ?_; rintro e w6 ⟨rfl, hb⟩; have Aw6 := Aside0.mk hb; clear hb))
          go_ret
          exact ⟨rfl, ((HX3.out.below N4.out).below N5.out).b.trans (Aw6.out.mono ((HX3.out.below N4.out).below N5.out).b.size)⟩
        | true =>
          have HLF : Aside0 (isTB C a2 = true ∧ isTB C a3 = true ∧ hasBit (rd C.l0 (labT C a2)) (labT C a3) = true) := ⟨low_flow HL.out HGD.out (by rw [HCD.out]; exact HQ1.out) (by rw [HCD.out]; exact HQ2.out)⟩
          have HF4 : Aside0 (1 ≤ l0_4.length ∧ l0_4.length ≤ 64) := ⟨by have := HGD.out.f; rw [HCD.out] at this; exact ⟨Nat.pos_of_ne_zero this.2.1, this.1⟩⟩
          have HFO : Aside0 (0 ≤ rd l0_4 0) := ⟨by have := HGD.out.f.2.2 0 (by rw [HCD.out]; exact HF4.out.1); rw [HCD.out] at this; unfold okFr isTB at this; exact (of_decide_eq_true this).1⟩
          go_upto_region 6 with (first | ((with_reducible refine gate_ (.load 28 (.tmp 4)) rfl ?_); (try (refine gate_guard (by rfl) ?_; dsimp only)); refine load_blk rfl 28 (.tmp 4) rfl W.heap.size _ 28 rfl _ (by first | exact HX3.out.e0 | exact (HX3.out.below N4.out).e0) Tryd.underlying28 rfl (by kernel_rfl) ?_) | (go_at_call 17; (with_reducible refine (Named_calls (.slice A0_0 l0_0.length c0_0) (.slice A0_1 l0_1.length c0_1) (.slice A0_3 l0_3.length c0_3) (.slice A0_4 l0_4.length c0_4) (.int .i64 a0_5) (.int .i64 a0_6) (.int .i64 a0_7) A0_2 c0_2 l0_2 a1 a2 1 _ HO.out HAT.out.h2 HS.out (HAT.out.below (HX3.out.b)).r2).mono ?_); rintro e w4 ⟨rfl, hb⟩; rw [HQ1.out]; have N4 := Aside0.mk hb; clear hb) | (go_at_call 17; (with_reducible refine (Named_calls (.slice A0_0 l0_0.length c0_0) (.slice A0_1 l0_1.length c0_1) (.slice A0_3 l0_3.length c0_3) (.slice A0_4 l0_4.length c0_4) (.int .i64 a0_5) (.int .i64 a0_6) (.int .i64 a0_7) A0_2 c0_2 l0_2 a1 a3 2 _ HO.out HAT.out.h2 HS.out (HAT.out.below ((HX3.out.below N4.out).b)).r2).mono ?_); rintro e w5 ⟨rfl, hb⟩; rw [HQ2.out]; have N5 := Aside0.mk hb; clear hb))
          have HX5 := Aside0.mk ((HX3.out.below N4.out).below N5.out)
          clear HX3 N4 N5
          go_upto_region 7 with (first | ((with_reducible refine gate_ (.load 28 (.tmp 4)) rfl ?_); (try (refine gate_guard (by rfl) ?_; dsimp only)); refine load_blk rfl 28 (.tmp 4) rfl W.heap.size _ 28 rfl _ (HX5.out).e0 Tryd.underlying28 rfl (by kernel_rfl) ?_) | (go_at_call 18; refine (Low_calls ⟨A0_0, c0_0, l0_0, A0_1, c0_1, l0_1, A0_2, c0_2, l0_2, A0_3, c0_3, l0_3, A0_4, c0_4, l0_4, a0_5, a0_6, a0_7⟩ a3 _ (HAT.out.below HX5.out.b) (HCD.out ▸ HL.out) (by rw [HCK.out]) (HCD.out ▸ HLF.out.2.1)).mono ?_; rintro e w6 ⟨⟨ov, rfl, hbits⟩, hb⟩; have N6 := Aside0.mk hb; have HBT := Aside0.mk hbits; clear hb hbits))
          have HX6 := Aside0.mk (HX5.out.below N6.out)
          have x4 : w6.cell? ⟨W.heap.size, 4, none⟩ = some (.slice A0_4 l0_4.length c0_4) := by simp [World.cell?, HX6.out.e0]
          go_upto_region 8 with (go_at_call 19; refine (Owner0_calls A0_4 c0_4 l0_4 _ HF4.out.1 HF4.out.2 (HAT.out.below HX6.out.b).r4).mono ?_; rintro e w7 ⟨rfl, hb⟩; have N7 := Aside0.mk hb; clear hb)
          have HX7 := Aside0.mk (HX6.out.below N7.out)
          clear x4
          have hfo : 0 ≤ rd l0_4 0 := HFO.out
          generalize rd l0_4 0 = fo at hfo ⊢
          have d1 : decide (0 ≤ fo) = true := decide_eq_true hfo
          have d1' : decide (fo ≥ 0) = true := d1
          have ht2 : 0 ≤ a2 ∧ a2 < (C.l1.length : Int) := by have := HLF.out.1; unfold isTB at this; exact of_decide_eq_true this
          have ht3 : a2 < 16 := by have := HGD.out.t.1; omega
          obtain ⟨i, rfl⟩ := Int.eq_ofNat_of_zero_le ht2.1
          have HBA : Aside0 (bits .and .u64 (ov / 2 ^ i) 1 = 1) := by
            have hb1 := HBT.out.2 i (by omega)
            have e0 := lowL_in (C := C) (t := a3) (i := i) HLF.out.2.2 C.l1.length (by omega)
            rw [HCD.out] at e0
            exact ⟨bit_at HBT.out.1 (by omega) (hb1.trans e0)⟩
          have u1 : (bits .and .u64 (ov / 2 ^ i) 1 == 1) = true := by rw [HBA.out]; rfl
          have u2 : decide (bits .and .u64 (ov / 2 ^ i) 1 = 1) = true := decide_eq_true HBA.out
          go_wp2_with (go_at_call 14; refine (alive_calls _ (HG.out.below (HX7.out.b))).mono ?_; rintro e w8 ⟨rfl, hb⟩; have Aw8 := Aside0.mk hb; clear hb)
          go_ret
          exact ⟨rfl, (HX7.out).b.trans (Aw8.out.mono (HX7.out).b.size)⟩
    · have d0 : (ce != 0) = true := by simpa using hce
      have d0' : decide (ce = 0) = false := decide_eq_false hce
      clear hce
      go_wp2_with (first | ((with_reducible refine gate_ (.load 28 (.tmp 4)) rfl ?_); (try (refine gate_guard (by rfl) ?_; dsimp only)); refine load_blk rfl 28 (.tmp 4) rfl W.heap.size _ 28 rfl _ (HX2.out).e0 Tryd.underlying28 rfl (by kernel_rfl) ?_) | (go_at_call 16; refine (Check_calls ⟨A0_0, c0_0, l0_0, A0_1, c0_1, l0_1, A0_2, c0_2, l0_2, A0_3, c0_3, l0_3, A0_4, c0_4, l0_4, a0_5, a0_6, a0_7⟩ _ (HAT.out.below HX2.out.b) (HCD.out ▸ HL.out)).mono ?_; rintro e w3 ⟨rfl, hb⟩; rw [HCK.out]; have N3 := Aside0.mk hb; clear hb) | (go_at_call 14; refine (alive_calls _ (HG.out.below ((HX2.out.below N3.out).b))).mono ?_; rintro e w5 ⟨rfl, hb⟩; have Aw5 := Aside0.mk hb; clear hb))
      go_ret
      exact ⟨rfl, (HX2.out.below N3.out).b.trans (Aw5.out.mono (HX2.out.below N3.out).b.size)⟩

theorem DecodeFlows_hand (A0_0 : Option Addr) (c0_0 : Nat) (l0_0 : List Int) (A0_1 : Option Addr) (c0_1 : Nat) (l0_1 : List S97) (A0_2 : Option Addr) (c0_2 : Nat) (l0_2 : List S87) (A0_3 : Option Addr) (c0_3 : Nat) (l0_3 : List S107) (A0_4 : Option Addr) (c0_4 : Nat) (l0_4 : List Int) (a0_5 a0_6 a0_7 : Int) (a1 a2 a3 : Int) (W : World) (hr0_0 : Kd.C (Kd.int .u64) W A0_0 l0_0.length l0_0) (hc0_0 : l0_0.length ≤ c0_0) (hr0_1 : Kd.C k97 W A0_1 l0_1.length l0_1) (hc0_1 : l0_1.length ≤ c0_1) (hr0_2 : Kd.C k87 W A0_2 l0_2.length l0_2) (hc0_2 : l0_2.length ≤ c0_2) (hr0_3 : Kd.C k107 W A0_3 l0_3.length l0_3) (hc0_3 : l0_3.length ≤ c0_3) (hr0_4 : Kd.C (Kd.int .i64) W A0_4 l0_4.length l0_4) (hc0_4 : l0_4.length ≤ c0_4)
    {P0 P1 P2 P3 : Prop} (h0 : (l0_0.length * 8 ≤ 140737488351232 ∧ ∀ x ∈ l0_0, (Lit.int .u64 x).wf = true) ∧ P0) (_h1 : P1) (_h2 : P2) (_h3 : P3) (hg : Glob W) :
    Calls Tryd.prog 5 #[.agg #[.slice A0_0 l0_0.length c0_0, .slice A0_1 l0_1.length c0_1, .slice A0_2 l0_2.length c0_2, .slice A0_3 l0_3.length c0_3, .slice A0_4 l0_4.length c0_4, .int .i64 a0_5, .int .i64 a0_6, .int .i64 a0_7], .int .i64 a1, .int .i64 a2, .int .i64 a3] W fun e w' => e = .returned (.bool true) ∧ Below W.heap.size W w' :=
  DecodeFlows_walk A0_0 c0_0 l0_0 A0_1 c0_1 l0_1 A0_2 c0_2 l0_2 A0_3 c0_3 l0_3 A0_4 c0_4 l0_4 a0_5 a0_6 a0_7 a1 a2 a3 W hr0_0 hc0_0 hr0_1 hc0_1 hr0_2 hc0_2 hr0_3 hc0_3 hr0_4 hc0_4 (fun x hx => u64_of (h0.1.2 x hx)) hg
end Go.Proofs.YtoliipbmcekciaaDoor.QDd
