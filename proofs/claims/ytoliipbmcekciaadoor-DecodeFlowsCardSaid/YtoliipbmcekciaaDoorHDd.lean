/- Decode: flows, Grants walked. -/
import Derived.Test.YtoliipbmcekciaaDoorGDd
import Derived.Test.YtoliipbmcekciaaDoorQDbx1
namespace Go.Proofs.YtoliipbmcekciaaDoor.QDd
open Go.RowKit Go.Proofs.YtoliipbmcekciaaDoorW.PrintWords Go.Proofs.YtoliipbmcekciaaDoorW.PrintLast Go.Proofs.YtoliipbmcekciaaDoorW.PrintMore
open Go.Proofs.YtoliipbmcekciaaDoor.QDc (obj_below take_at yields_blk load_blk load_any store_blk blk_setCells setAll far_setCells below_setCells)
set_option linter.unusedVariables false
set_option linter.unusedSimpArgs false
def hasBit (s i : Int) : Bool := if 0 ≤ i ∧ i < 64 then bits .and .u64 s (shl .u64 1 i) != 0 else false
theorem bits_Has_eq (s i : Int) : QDb.bits_Has.f s i = some (hasBit s i) := by
  unfold QDb.bits_Has.f hasBit
  by_cases h0 : i ≥ 0
  · by_cases h1 : i < 64
    · have e : IntKind.u64.wrap i = i := by rw [IntKind.wrap_u64]; omega
      rw [if_pos h0, if_pos h1, if_pos ⟨h0, h1⟩]
      unfold QDb.bits_one.f
      rw [e, if_pos h0]
      rfl
    · rw [if_pos h0, if_neg h1, if_neg (fun h => h1 h.2)]
  · rw [if_neg h0, if_neg (fun h => h0 h.1)]
def isT (l1 : List S97) (t : Int) : Bool := decide (0 ≤ t ∧ t < (l1.length : Int))
set_option maxRecDepth 100000 in
set_option maxHeartbeats 1000000 in
theorem isT_calls (v0 v2 v3 v4 v5 v6 v7 : Value) (A : Option Addr) (c : Nat) (l1 : List S97) (t : Int) (g : Nat) (w : World) (hE : w.heap[g]? = some (.cells #[v0, .slice A l1.length c, v2, v3, v4, v5, v6, v7] 28 (0, 0))) :
    Calls Tryd.prog 75 #[.int .i64 t, .pointer (some ⟨g, 0, none⟩)] w fun e w' => e = .returned (.bool (isT l1 t)) ∧ w = w' := by
  have x1 : w.cell? ⟨g, 1, none⟩ = some (.slice A l1.length c) := by simp [World.cell?, hE]
  clear hE
  unfold isT
  by_cases h1 : 0 ≤ t
  · by_cases h2 : t < (l1.length : Int)
    · have e1 : decide (0 ≤ t) = true := decide_eq_true h1
      have e2 : decide (t < (l1.length : Int)) = true := decide_eq_true h2
      rw [show decide (0 ≤ t ∧ t < (l1.length : Int)) = true from decide_eq_true ⟨h1, h2⟩]
      go_enter Tryd.func75, Tryd.ntmps75
      go_wp2
      go_ret
      exact ⟨rfl, rfl⟩
    · have e1 : decide (0 ≤ t) = true := decide_eq_true h1
      have e2 : decide (t < (l1.length : Int)) = false := decide_eq_false h2
      rw [show decide (0 ≤ t ∧ t < (l1.length : Int)) = false from decide_eq_false (fun h => h2 h.2)]
      go_enter Tryd.func75, Tryd.ntmps75
      go_wp2
      go_ret
      exact ⟨rfl, rfl⟩
  · have e1 : decide (0 ≤ t) = false := decide_eq_false h1
    rw [show decide (0 ≤ t ∧ t < (l1.length : Int)) = false from decide_eq_false (fun h => h1 h.1)]
    go_enter Tryd.func75, Tryd.ntmps75
    go_wp2
    go_ret
    exact ⟨rfl, rfl⟩
def flowsB (l0 : List Int) (l1 : List S97) (a b : Int) : Bool := isT l1 a && (isT l1 b && (decide (0 ≤ (rd_T97 l1 a).f0) && (decide ((rd_T97 l1 a).f0 < (l0.length : Int)) && hasBit (rd l0 (rd_T97 l1 a).f0) (rd_T97 l1 b).f0)))
set_option maxRecDepth 100000 in
set_option maxHeartbeats 4000000 in
theorem flows_calls (v2 v3 v4 v5 v6 v7 : Value) (A0 : Option Addr) (c0 : Nat) (l0 : List Int) (A1 : Option Addr) (c1 : Nat) (l1 : List S97) (a b : Int) (w : World) (hr0 : Kd.C (Kd.int .u64) w A0 l0.length l0) (hr1 : Kd.C k97 w A1 l1.length l1) :
    Calls Tryd.prog 55 #[.agg #[.slice A0 l0.length c0, .slice A1 l1.length c1, v2, v3, v4, v5, v6, v7], .int .i64 a, .int .i64 b] w fun e w' => e = .returned (.bool (flowsB l0 l1 a b)) ∧ Below w.heap.size w w' := by
  have HR := Aside0.mk (And.intro hr0 hr1)
  clear hr0 hr1
  obtain ⟨ta, hta⟩ : ∃ x, isT l1 a = x := ⟨_, rfl⟩
  obtain ⟨tb, htb⟩ : ∃ x, isT l1 b = x := ⟨_, rfl⟩
  have HT := Aside0.mk (And.intro hta htb)
  unfold flowsB
  rw [hta, htb]
  clear hta htb
  have key : ∀ q : Bool, (ta && (tb && (decide (0 ≤ (rd_T97 l1 a).f0) && (decide ((rd_T97 l1 a).f0 < (l0.length : Int)) && hasBit (rd l0 (rd_T97 l1 a).f0) (rd_T97 l1 b).f0)))) = q → Calls Tryd.prog 55 #[.agg #[.slice A0 l0.length c0, .slice A1 l1.length c1, v2, v3, v4, v5, v6, v7], .int .i64 a, .int .i64 b] w fun e w' => e = .returned (.bool q) ∧ Below w.heap.size w w' := by
    intro q hq
    have HQ := Aside0.mk hq
    clear hq
    go_enter Tryd.func55, Tryd.ntmps55
    go_upto_region 1 with fail
    have E0 : Aside0 ((w.alloc (.cells #[.slice A0 l0.length c0, .slice A1 l1.length c1, v2, v3, v4, v5, v6, v7] 28)).heap[w.heap.size]? = some (.cells #[.slice A0 l0.length c0, .slice A1 l1.length c1, v2, v3, v4, v5, v6, v7] 28 (0, 0))) := ⟨World.alloc_heap_new w _⟩
    have BK : Aside0 (Below w.heap.size w (w.alloc (.cells #[.slice A0 l0.length c0, .slice A1 l1.length c1, v2, v3, v4, v5, v6, v7] 28))) := ⟨(Below.refl _ w).alloc (Nat.le_refl _) _⟩
    generalize w.alloc (.cells #[.slice A0 l0.length c0, .slice A1 l1.length c1, v2, v3, v4, v5, v6, v7] 28) = w2 at E0 BK ⊢
    have x0 : w2.cell? ⟨w.heap.size, 0, none⟩ = some (.slice A0 l0.length c0) := by simp [World.cell?, E0.out]
    have x1 : w2.cell? ⟨w.heap.size, 1, none⟩ = some (.slice A1 l1.length c1) := by simp [World.cell?, E0.out]
    cases ta with
    | false =>
      go_wp2_with (first | (go_at_call 75; refine (isT_calls _ v2 v3 v4 v5 v6 v7 A1 c1 l1 _ _ _ E0.out).mono ?_; rintro e w' ⟨rfl, rfl⟩; first | rw [HT.out.1] | rw [HT.out.2]))
      go_ret
      exact ⟨by rw [← HQ.out]; rfl, BK.out⟩
    | true =>
      cases tb with
      | false =>
        go_wp2_with (first | (go_at_call 75; refine (isT_calls _ v2 v3 v4 v5 v6 v7 A1 c1 l1 _ _ _ E0.out).mono ?_; rintro e w' ⟨rfl, rfl⟩; first | rw [HT.out.1] | rw [HT.out.2]))
        go_ret
        exact ⟨by rw [← HQ.out]; rfl, BK.out⟩
      | true =>
        have ha : 0 ≤ a ∧ a < (l1.length : Int) := by have := HT.out.1; unfold isT at this; exact of_decide_eq_true this
        have hb : 0 ≤ b ∧ b < (l1.length : Int) := by have := HT.out.2; unfold isT at this; exact of_decide_eq_true this
        obtain ⟨ha0, ha1⟩ := ha
        obtain ⟨hb0, hb1⟩ := hb
        obtain ⟨ad, rfl, y0, y1⟩ := at_T97 HR.out.2 a ha0 ha1
        obtain ⟨ad', e', z0, z1⟩ := at_T97 HR.out.2 b hb0 hb1
        cases e'
        replace y0 := pw_cell_below BK.out y0
        replace z0 := pw_cell_below BK.out z0
        clear y1 z1
        obtain ⟨la, hla⟩ : ∃ x, (rd_T97 l1 a).f0 = x := ⟨_, rfl⟩
        obtain ⟨lb, hlb⟩ : ∃ x, (rd_T97 l1 b).f0 = x := ⟨_, rfl⟩
        rw [hla] at y0 HQ
        rw [hlb] at z0 HQ
        clear hla hlb
        by_cases h0 : 0 ≤ la
        · have d0 : decide (0 ≤ la) = true := decide_eq_true h0
          by_cases h1 : la < (l0.length : Int)
          · have d1 : decide (la < (l0.length : Int)) = true := decide_eq_true h1
            obtain ⟨ad0, rfl, u0⟩ := Kd.at_int HR.out.1 la h0 h1
            replace u0 := pw_cell_below BK.out u0
            have HH := Aside0.mk (bits_Has_eq (rd l0 la) lb)
            go_wp2_with (first | (go_at_call 75; refine (isT_calls _ v2 v3 v4 v5 v6 v7 _ c1 l1 _ _ _ E0.out).mono ?_; rintro e w' ⟨rfl, rfl⟩; first | rw [HT.out.1] | rw [HT.out.2]))
            go_quiet (first | (go_at_call 76; (with_reducible refine (QDb.bits_Has.calls (rd l0 la) lb (hasBit (rd l0 la) lb) _ HH.out).mono ?_); rintro e w' ⟨rfl, ⟨nd, rfl⟩⟩; (try first | exact ⟨rfl, _, World.drewN_drewN _ _ _⟩ | exact ⟨rfl, _, Eq.trans (World.drewN_drewN _ _ _) (congrArg (World.drewN _) (Nat.add_assoc _ _ _))⟩)))
            go_wp2
            go_ret
            exact ⟨by rw [← HQ.out]; simp [*], pw_below_drewN BK.out _⟩
          · have d1 : decide (la < (l0.length : Int)) = false := decide_eq_false h1
            go_wp2_with (first | (go_at_call 75; refine (isT_calls _ v2 v3 v4 v5 v6 v7 _ c1 l1 _ _ _ E0.out).mono ?_; rintro e w' ⟨rfl, rfl⟩; first | rw [HT.out.1] | rw [HT.out.2]))
            go_quiet (fail)
            go_wp2
            go_ret
            exact ⟨by rw [← HQ.out]; simp [*], pw_below_drewN BK.out _⟩
        · have d0 : decide (0 ≤ la) = false := decide_eq_false h0
          go_wp2_with (first | (go_at_call 75; refine (isT_calls _ v2 v3 v4 v5 v6 v7 _ c1 l1 _ _ _ E0.out).mono ?_; rintro e w' ⟨rfl, rfl⟩; first | rw [HT.out.1] | rw [HT.out.2]))
          go_quiet (fail)
          go_wp2
          go_ret
          exact ⟨by rw [← HQ.out]; simp [*], pw_below_drewN BK.out _⟩
  exact key _ rfl
set_option maxRecDepth 100000 in
set_option maxHeartbeats 4000000 in
theorem Grants_calls (v3 v4 v5 v6 v7 : Value) (A0 : Option Addr) (c0 : Nat) (l0 : List Int) (A1 : Option Addr) (c1 : Nat) (l1 : List S97) (A : Option Addr) (c : Nat) (l : List S87) (a b ch xr r : Int) (w : World) (ho : ([v3, v4, v5, v6, v7].all (·.oneCell')) = true) (hr0 : Kd.C (Kd.int .u64) w A0 l0.length l0) (hr1 : Kd.C k97 w A1 l1.length l1) (hc : l.length ≤ c) (hs : Small l) (hr : Kd.C k87 w A l.length l) :
    Calls Tryd.prog 23 #[.agg #[.slice A0 l0.length c0, .slice A1 l1.length c1, .slice A l.length c, v3, v4, v5, v6, v7], .int .i64 a, .int .i64 b, .agg #[.int .i64 ch, .int .u8 xr], .int .u8 r] w fun e w' => e = .returned (.bool (flowsB l0 l1 a b && (bits .and .u8 xr 4 != 0 && (bits .and .u8 xr r == r && Rules3B l ch b r)))) ∧ Below w.heap.size w w' := by
  have ho' : ([.slice A0 l0.length c0, .slice A1 l1.length c1, v3, v4, v5, v6, v7].all (·.oneCell')) = true := by simpa [show (Value.slice A0 l0.length c0).oneCell' = true from rfl, show (Value.slice A1 l1.length c1).oneCell' = true from rfl] using ho
  have HC := Aside0.mk (And.intro hc (And.intro hs (And.intro hr (And.intro ho' (And.intro hr0 hr1)))))
  clear hc hs hr ho ho' hr0 hr1
  obtain ⟨bf, hbf⟩ : ∃ x, flowsB l0 l1 a b = x := ⟨_, rfl⟩
  obtain ⟨z4, hz4⟩ : ∃ x, bits .and .u8 xr 4 = x := ⟨_, rfl⟩
  obtain ⟨zr, hzr⟩ : ∃ x, bits .and .u8 xr r = x := ⟨_, rfl⟩
  have HF := Aside0.mk hbf
  rw [hbf, hz4, hzr]
  clear hbf
  have key : ∀ q : Bool, (bf && (z4 != 0 && (zr == r && Rules3B l ch b r))) = q → Calls Tryd.prog 23 #[.agg #[.slice A0 l0.length c0, .slice A1 l1.length c1, .slice A l.length c, v3, v4, v5, v6, v7], .int .i64 a, .int .i64 b, .agg #[.int .i64 ch, .int .u8 xr], .int .u8 r] w fun e w' => e = .returned (.bool q) ∧ Below w.heap.size w w' := by
    intro q hq
    have HQ := Aside0.mk hq
    clear hq
    go_enter Tryd.func23, Tryd.ntmps23
    go_upto_region 1 with fail
    have BK : Aside0 (Below w.heap.size w ((w.alloc (.cells #[.slice A0 l0.length c0, .slice A1 l1.length c1, .slice A l.length c, v3, v4, v5, v6, v7] 28)).alloc (.cells #[.int .i64 ch, .int .u8 xr] 59))) := ⟨((Below.refl _ w).alloc (Nat.le_refl _) _).alloc (by simp) _⟩
    have E0 : Aside0 (((w.alloc (.cells #[.slice A0 l0.length c0, .slice A1 l1.length c1, .slice A l.length c, v3, v4, v5, v6, v7] 28)).alloc (.cells #[.int .i64 ch, .int .u8 xr] 59)).heap[w.heap.size]? = some (.cells #[.slice A0 l0.length c0, .slice A1 l1.length c1, .slice A l.length c, v3, v4, v5, v6, v7] 28 (0, 0))) := ⟨(Below.heap_alloc _ _ _ (by simp)).trans (World.alloc_heap_new w _)⟩
    have E1 : Aside0 (((w.alloc (.cells #[.slice A0 l0.length c0, .slice A1 l1.length c1, .slice A l.length c, v3, v4, v5, v6, v7] 28)).alloc (.cells #[.int .i64 ch, .int .u8 xr] 59)).heap[w.heap.size + 1]? = some (.cells #[.int .i64 ch, .int .u8 xr] 59 (0, 0))) := ⟨by have := World.alloc_heap_new (w.alloc (.cells #[.slice A0 l0.length c0, .slice A1 l1.length c1, .slice A l.length c, v3, v4, v5, v6, v7] 28)) (.cells #[.int .i64 ch, .int .u8 xr] 59); rwa [World.size_alloc] at this⟩
    generalize ((w.alloc (.cells #[.slice A0 l0.length c0, .slice A1 l1.length c1, .slice A l.length c, v3, v4, v5, v6, v7] 28)).alloc (.cells #[.int .i64 ch, .int .u8 xr] 59)) = w2 at BK E0 E1 ⊢
    cases bf with
    | false =>
      go_wp2_with (first | ((with_reducible refine gate_ (.load 28 (.tmp 5)) rfl ?_); (try (refine gate_guard (by rfl) ?_; dsimp only)); refine load_blk rfl 28 (.tmp 5) rfl w.heap.size _ 28 rfl _ (by first | exact E0.out | exact obj_below W3.out E0.out) Tryd.underlying28 rfl (by kernel_rfl) ?_) | (go_at_call 55; refine (flows_calls (.slice A l.length c) v3 v4 v5 v6 v7 A0 c0 l0 A1 c1 l1 a b _ (Kd.C_below HC.out.2.2.2.2.1 BK.out) (Kd.C_below HC.out.2.2.2.2.2 BK.out)).mono ?_; rintro e w3 ⟨rfl, hB3⟩; rw [HF.out]; have W3 := Aside0.mk hB3; have c0' : w3.cell? ⟨w.heap.size + 1, 0, none⟩ = some (.int .i64 ch) := (by simp [World.cell?, obj_below hB3 E1.out]); have c1' : w3.cell? ⟨w.heap.size + 1, 1, none⟩ = some (.int .u8 xr) := (by simp [World.cell?, obj_below hB3 E1.out]); clear hB3))
      go_ret
      exact ⟨by rw [← HQ.out]; rfl, BK.out.trans (W3.out.mono BK.out.size)⟩
    | true =>
      by_cases h4 : z4 = 0
      · have d4 : (z4 != 0) = false := by simpa using h4
        go_wp2_with (first | ((with_reducible refine gate_ (.load 28 (.tmp 5)) rfl ?_); (try (refine gate_guard (by rfl) ?_; dsimp only)); refine load_blk rfl 28 (.tmp 5) rfl w.heap.size _ 28 rfl _ (by first | exact E0.out | exact obj_below W3.out E0.out) Tryd.underlying28 rfl (by kernel_rfl) ?_) | (go_at_call 55; refine (flows_calls (.slice A l.length c) v3 v4 v5 v6 v7 A0 c0 l0 A1 c1 l1 a b _ (Kd.C_below HC.out.2.2.2.2.1 BK.out) (Kd.C_below HC.out.2.2.2.2.2 BK.out)).mono ?_; rintro e w3 ⟨rfl, hB3⟩; rw [HF.out]; have W3 := Aside0.mk hB3; have c0' : w3.cell? ⟨w.heap.size + 1, 0, none⟩ = some (.int .i64 ch) := (by simp [World.cell?, obj_below hB3 E1.out]); have c1' : w3.cell? ⟨w.heap.size + 1, 1, none⟩ = some (.int .u8 xr) := (by simp [World.cell?, obj_below hB3 E1.out]); clear hB3))
        go_ret
        exact ⟨by rw [← HQ.out]; simp [*], BK.out.trans (W3.out.mono BK.out.size)⟩
      · have d4 : (z4 != 0) = true := by simpa using h4
        by_cases h5 : zr = r
        · have d5 : (zr == r) = true := by simpa using h5
          have H5 := Aside0.mk h5
          clear h5
          go_wp2_with (first | ((with_reducible refine gate_ (.load 28 (.tmp 5)) rfl ?_); (try (refine gate_guard (by rfl) ?_; dsimp only)); refine load_blk rfl 28 (.tmp 5) rfl w.heap.size _ 28 rfl _ (by first | exact E0.out | exact obj_below W3.out E0.out) Tryd.underlying28 rfl (by kernel_rfl) ?_) | (go_at_call 55; refine (flows_calls (.slice A l.length c) v3 v4 v5 v6 v7 A0 c0 l0 A1 c1 l1 a b _ (Kd.C_below HC.out.2.2.2.2.1 BK.out) (Kd.C_below HC.out.2.2.2.2.2 BK.out)).mono ?_; rintro e w3 ⟨rfl, hB3⟩; rw [HF.out]; have W3 := Aside0.mk hB3; have c0' : w3.cell? ⟨w.heap.size + 1, 0, none⟩ = some (.int .i64 ch) := (by simp [World.cell?, obj_below hB3 E1.out]); have c1' : w3.cell? ⟨w.heap.size + 1, 1, none⟩ = some (.int .u8 xr) := (by simp [World.cell?, obj_below hB3 E1.out]); clear hB3) | (go_at_call 17; refine (Named_calls (.slice A0 l0.length c0) (.slice A1 l1.length c1) v3 v4 v5 v6 v7 A c l ch b r _ HC.out.2.2.2.1 HC.out.1 HC.out.2.1 (Kd.C_below HC.out.2.2.1 (BK.out.trans (W3.out.mono BK.out.size)))).mono ?_; rintro e w4 ⟨rfl, hB4⟩; have W4 := Aside0.mk hB4; clear hB4))
          go_ret
          exact ⟨by rw [← HQ.out]; simp [*], BK.out.trans ((W3.out.trans (W4.out.mono W3.out.size)).mono BK.out.size)⟩
        · have d5 : (zr == r) = false := by simpa using h5
          go_wp2_with (first | ((with_reducible refine gate_ (.load 28 (.tmp 5)) rfl ?_); (try (refine gate_guard (by rfl) ?_; dsimp only)); refine load_blk rfl 28 (.tmp 5) rfl w.heap.size _ 28 rfl _ (by first | exact E0.out | exact obj_below W3.out E0.out) Tryd.underlying28 rfl (by kernel_rfl) ?_) | (go_at_call 55; refine (flows_calls (.slice A l.length c) v3 v4 v5 v6 v7 A0 c0 l0 A1 c1 l1 a b _ (Kd.C_below HC.out.2.2.2.2.1 BK.out) (Kd.C_below HC.out.2.2.2.2.2 BK.out)).mono ?_; rintro e w3 ⟨rfl, hB3⟩; rw [HF.out]; have W3 := Aside0.mk hB3; have c0' : w3.cell? ⟨w.heap.size + 1, 0, none⟩ = some (.int .i64 ch) := (by simp [World.cell?, obj_below hB3 E1.out]); have c1' : w3.cell? ⟨w.heap.size + 1, 1, none⟩ = some (.int .u8 xr) := (by simp [World.cell?, obj_below hB3 E1.out]); clear hB3))
          go_ret
          exact ⟨by rw [← HQ.out]; simp [*], BK.out.trans (W3.out.mono BK.out.size)⟩
  exact key _ rfl
end Go.Proofs.YtoliipbmcekciaaDoor.QDd
