/- The walks of the statements on frames: each comes back with true, and nothing that was there has turned. -/
import Derived.Test.YtmfmliblieemiaaNFr
namespace Go.Proofs.Ytmfmliblieemiaa.QFr
open Go.RowKit Go.Proofs.YtmfmliblieemiaaW.PrintWords Go.Proofs.YtmfmliblieemiaaW.PrintLast Go.Proofs.YtmfmliblieemiaaW.PrintMore
set_option linter.unusedVariables false
set_option linter.unusedSimpArgs false

theorem big_round : ∃ K : Nat, 268435456 ≤ K := ⟨_, Nat.le_refl _⟩

set_option maxHeartbeats 1000000 in
theorem FrameCounts_walk (A0 : Option Addr) (c0 : Nat) (l0 : List Int) (a1 a2 a3 a4 : Int) (w : World) (hr : Kd.C (Kd.int .i64) w A0 l0.length l0) (hc : l0.length ≤ c0)
    (_b0 : (fun l : List Int => l.length * 8 ≤ 140737488351232 ∧ ∀ x ∈ l, (fun n : Int => (Lit.int .i64 n).wf = true) x) l0) (_b1 : (fun n : Int => (Lit.int .i64 n).wf = true) a1) (_b2 : (fun n : Int => (Lit.int .i64 n).wf = true) a2) (_b3 : (fun n : Int => (Lit.int .i64 n).wf = true) a3) (_b4 : (fun n : Int => (Lit.int .i64 n).wf = true) a4) :
    Calls Try.prog 3 #[.slice A0 l0.length c0, .int .i64 a1, .int .i64 a2, .int .i64 a3, .int .i64 a4] w fun e w' => e = .returned (.bool true) ∧ Below w.heap.size w w' := by
  have HR := Aside0.mk hr
  have bn := wf64 _b4
  clear hr _b0 _b1 _b2 _b3 _b4
  obtain ⟨K, hK⟩ := big_round
  go_enter Try.func3, Try.ntmps3
  go_wp2_with (go_at_call 10; refine (cut_read A0 c0 l0 w HR.out hc).mono ?_; rintro e w' ⟨l, c, rfl, hcl, hl, hk, rfl⟩)
  obtain ⟨x1, x2, hx⟩ : ∃ x1 x2, winRes l a1 a2 a3 = (x1, x2) := ⟨_, _, rfl⟩
  obtain ⟨y1, y2, hy⟩ : ∃ y1 y2, nthRes l a1 a2 a4 = (y1, y2) := ⟨_, _, rfl⟩
  have H1 : Aside0 (frame_Windows.f 70 l a1 a2 a3 = some (x1, x2)) := ⟨by rw [Windows_ok _ _ _ _ 70 (by omega), hx]⟩
  have H2 : Aside0 (rampartref19_Windows.f K l a1 a2 a3 = some (x1, x2)) := ⟨by rw [rWindows_ok _ _ _ _ K (by omega), hx]⟩
  have H3 : Aside0 (frame_Nth.f 120 l a1 a2 a4 = some (y1, y2)) := ⟨by rw [Nth_ok _ _ _ _ bn.2 bn.1 120 (by omega), hy]⟩
  have H4 : Aside0 (rampartref19_Nth.f K l a1 a2 a4 = some (y1, y2)) := ⟨by rw [rNth_ok _ _ _ _ bn.2 bn.1 K (by omega), hy]⟩
  clear hx hy bn hK hl
  go_wp2_with (go_at_call 11; refine (frame_Windows.calls 70 A0 c l a1 a2 a3 x1 x2 w hk.out hcl.out H1.out).mono ?_; rintro e w1 ⟨rfl, hd⟩; have K1 := Aside0.mk (Kd.C_below hk.out hd); have B1 := Aside0.mk hd; clear hd hk)
  go_wp2_with (go_at_call 12; refine (rampartref19_Windows.calls K A0 c l a1 a2 a3 x1 x2 w1 K1.out hcl.out H2.out).mono ?_; rintro e w2 ⟨rfl, hd⟩; have K2 := Aside0.mk (Kd.C_below K1.out hd.below); have B2 := Aside0.mk (below_step B1.out hd.below); clear hd K1 B1)
  go_wp2_with (go_at_call 13; refine (frame_Nth.calls 120 A0 c l a1 a2 a4 y1 y2 w2 K2.out hcl.out H3.out).mono ?_; rintro e w3 ⟨rfl, hd⟩; have K3 := Aside0.mk (Kd.C_below K2.out hd); have B3 := Aside0.mk (below_step B2.out hd); clear hd K2 B2)
  go_wp2_with (go_at_call 14; refine (rampartref19_Nth.calls K A0 c l a1 a2 a4 y1 y2 w3 K3.out hcl.out H4.out).mono ?_; rintro e w4 ⟨rfl, hd⟩; have B4 := Aside0.mk (below_step B3.out hd.below); clear hd K3 B3)
  go_wp2_with (go_at_call 15; refine (alive_calls w4).mono ?_; rintro e w5 ⟨rfl, hd⟩; have B5 := Aside0.mk (below_step B4.out hd); clear hd B4)
  go_ret
  exact ⟨rfl, B5.out⟩

/-- A slice's and a number's bounds, as the rows hand them over. -/
abbrev BL (l : List Int) : Prop := l.length * 8 ≤ 140737488351232 ∧ ∀ x ∈ l, (fun n : Int => (Lit.int .i64 n).wf = true) x
abbrev BI (n : Int) : Prop := (Lit.int .i64 n).wf = true

set_option maxHeartbeats 1000000 in
theorem FrameOwners_walk (A0 : Option Addr) (c0 : Nat) (l0 : List Int) (a1 a2 a3 : Int) (w : World) (hr : Kd.C (Kd.int .i64) w A0 l0.length l0) (hc : l0.length ≤ c0)
    (_b0 : BL l0) (_b1 : BI a1) (_b2 : BI a2) (_b3 : BI a3) :
    Calls Try.prog 6 #[.slice A0 l0.length c0, .int .i64 a1, .int .i64 a2, .int .i64 a3] w fun e w' => e = .returned (.bool true) ∧ Below w.heap.size w w' := by
  have HR := Aside0.mk hr
  clear hr _b0 _b1 _b2 _b3
  go_enter Try.func6, Try.ntmps6
  go_wp2_with (go_at_call 10; refine (cut_read A0 c0 l0 w HR.out hc).mono ?_; rintro e w' ⟨l, c, rfl, hcl, hl, hk, rfl⟩)
  have hlen : l.length ≤ 65 := by rw [hl.out, List.length_take]; omega
  obtain ⟨x1, x2, hx⟩ : ∃ x1 x2, ownRes l a2 = (x1, x2) := ⟨_, _, rfl⟩
  obtain ⟨y, hy⟩ : ∃ y, chkTell l a1 = y := ⟨_, rfl⟩
  obtain ⟨z, hz⟩ : ∃ z, ((l.count a3 : Nat) : Int) = z := ⟨_, rfl⟩
  have H1 : Aside0 (frame_Owner.f l a2 = some (x1, x2)) := ⟨by rw [Owner_ok, hx]⟩
  have H2 : Aside0 (rampartref19_Owner.f l a2 = some (x1, x2)) := ⟨by rw [rOwner_ok, hx]⟩
  have H3 : Aside0 (rampartref19_Check.f 300 l a1 = some y) := ⟨by rw [rCheck_ok _ _ 300 (by omega), hy]⟩
  have H4 : Aside0 (frame_Share.f 70 l a3 = some z) := ⟨by rw [Share_ok _ _ (by omega) 70 (by omega), hz]⟩
  have H5 : Aside0 (rampartref19_Share.f 70 l a3 = some z) := ⟨by rw [rshare_ok _ _ (by omega) 70 (by omega), hz]⟩
  have HY := Lib.hid hy
  clear hx hy hz hl hlen
  go_wp2_with (go_at_call 18; refine (frame_Owner.calls A0 c l a2 x1 x2 w hk.out hcl.out H1.out).mono ?_; rintro e w1 ⟨rfl, hd⟩; have K1 := Aside0.mk (Kd.C_below hk.out hd.below); have B1 := Aside0.mk hd.below; clear hd hk)
  go_wp2_with (go_at_call 21; refine (rampartref19_Owner.calls A0 c l a2 x1 x2 w1 K1.out hcl.out H2.out).mono ?_; rintro e w2 ⟨rfl, hd⟩; have K2 := Aside0.mk (Kd.C_below K1.out hd.below); have B2 := Aside0.mk (below_step B1.out hd.below); clear hd K1 B1)
  go_wp2_with (go_at_call 22; refine (Check A0 c l a1 w2 K2.out hcl.out).mono ?_; rw [HY.out]; rintro e w3 ⟨rfl, hd⟩; have K3 := Aside0.mk (Kd.C_below K2.out hd); have B3 := Aside0.mk (below_step B2.out hd); clear hd K2 B2)
  go_wp2_with (go_at_call 16; refine (rampartref19_Check.calls 300 A0 c l a1 y w3 K3.out hcl.out H3.out).mono ?_; rintro e w4 ⟨rfl, hd⟩; have K4 := Aside0.mk (Kd.C_below K3.out hd.below); have B4 := Aside0.mk (below_step B3.out hd.below); clear hd K3 B3)
  go_wp2_with (go_at_call 23; refine (frame_Share.calls 70 A0 c l a3 z w4 K4.out hcl.out H4.out).mono ?_; rintro e w5 ⟨rfl, hd⟩; have K5 := Aside0.mk (Kd.C_below K4.out hd.below); have B5 := Aside0.mk (below_step B4.out hd.below); clear hd K4 B4)
  go_wp2_with (go_at_call 24; refine (rampartref19_Share.calls 70 A0 c l a3 z w5 K5.out hcl.out H5.out).mono ?_; rintro e w6 ⟨rfl, hd⟩; have B6 := Aside0.mk (below_step B5.out hd.below); clear hd K5 B5)
  go_wp2_with (go_at_call 15; refine (alive_calls w6).mono ?_; rintro e w7 ⟨rfl, hd⟩; have B7 := Aside0.mk (below_step B6.out hd); clear hd B6)
  go_ret
  exact ⟨rfl, B7.out⟩

set_option maxHeartbeats 1000000 in
theorem FrameRounds_walk (A0 : Option Addr) (c0 : Nat) (l0 : List Int) (a1 a2 : Int) (w : World) (hr : Kd.C (Kd.int .i64) w A0 l0.length l0) (hc : l0.length ≤ c0)
    (_b0 : BL l0) (_b1 : BI a1) (_b2 : BI a2) :
    Calls Try.prog 7 #[.slice A0 l0.length c0, .int .i64 a1, .int .i64 a2] w fun e w' => e = .returned (.bool true) ∧ Below w.heap.size w w' := by
  have HR := Aside0.mk hr
  have bn := wf64 _b2
  clear hr _b0 _b1 _b2
  go_enter Try.func7, Try.ntmps7
  go_wp2_with (go_at_call 10; refine (cut_read A0 c0 l0 w HR.out hc).mono ?_; rintro e w' ⟨l, c, rfl, hcl, hl, hk, rfl⟩)
  have hlen : l.length ≤ 65 := by rw [hl.out, List.length_take]; omega
  clear hl
  have HRow : Aside0 (rampartref19_Row.f l = some (okRow l)) := ⟨row_is l⟩
  have HT1 : Aside0 (rampartref19_Tick.f a2 = some (okTick a2)) := ⟨rtick_is a2⟩
  have HT2 : Aside0 (rampartref19_Tick.f (wrap64 (a2 + (l.length : Int))) = some (okTick (wrap64 (a2 + (l.length : Int))))) := ⟨rtick_is _⟩
  cases hrow : okRow l with
  | false =>
    rw [hrow] at HRow
    clear hrow HT1 HT2
    go_wp2_with (first | (go_at_call 25; refine (rampartref19_Row.calls A0 c l false w hk.out hcl.out HRow.out).mono ?_; rintro e w1 ⟨rfl, hd⟩; have B1 := Aside0.mk hd.below; clear hd hk) | (go_at_call 15; refine (alive_calls w1).mono ?_; rintro e w7 ⟨rfl, hd⟩; have B7 := Aside0.mk (below_step B1.out hd); clear hd B1))
    go_ret
    exact ⟨rfl, B7.out⟩
  | true =>
    rw [hrow] at HRow
    cases ht1 : okTick a2 with
    | false =>
      rw [ht1] at HT1
      clear hrow ht1 HT2
      go_wp2_with (first | (go_at_call 25; refine (rampartref19_Row.calls A0 c l true w hk.out hcl.out HRow.out).mono ?_; rintro e w1 ⟨rfl, hd⟩; have B1 := Aside0.mk hd.below; clear hd hk) | (go_at_call 17; refine (rampartref19_Tick.calls a2 false w1 HT1.out).mono ?_; rintro e w2 ⟨rfl, hd⟩; have B2 := Aside0.mk (below_step B1.out hd.below); clear hd B1) | (go_at_call 15; refine (alive_calls w2).mono ?_; rintro e w7 ⟨rfl, hd⟩; have B7 := Aside0.mk (below_step B2.out hd); clear hd B2))
      go_ret
      exact ⟨rfl, B7.out⟩
    | true =>
      rw [ht1] at HT1
      have r := okRow_iff hrow
      have t1 := okTick_iff ht1
      have e1 : wrap64 (a2 + (l.length : Int)) = a2 + l.length := by unfold wrap64; omega
      rw [e1] at HT2
      cases ht2 : okTick (a2 + l.length) with
      | false =>
        rw [ht2] at HT2
        clear hrow ht1 ht2 e1
        go_wp2_with (go_at_call 25; refine (rampartref19_Row.calls A0 c l true w hk.out hcl.out HRow.out).mono ?_; rintro e w1 ⟨rfl, hd⟩; have B1 := Aside0.mk hd.below; clear hd hk)
        go_wp2_with (go_at_call 17; refine (rampartref19_Tick.calls a2 true w1 HT1.out).mono ?_; rintro e w2 ⟨rfl, hd⟩; have B2 := Aside0.mk (below_step B1.out hd.below); clear hd B1 HT1)
        go_wp2_with (go_at_call 17; refine (rampartref19_Tick.calls (a2 + l.length) false w2 HT2.out).mono ?_; rintro e w3 ⟨rfl, hd⟩; have B3 := Aside0.mk (below_step B2.out hd.below); clear hd B2 HT2)
        go_wp2_with (go_at_call 15; refine (alive_calls w3).mono ?_; rintro e w7 ⟨rfl, hd⟩; have B7 := Aside0.mk (below_step B3.out hd); clear hd B3)
        go_ret
        exact ⟨rfl, B7.out⟩
      | true =>
        rw [ht2] at HT2
        obtain ⟨z, hz⟩ : ∃ z, ((l.count a1 : Nat) : Int) = z := ⟨_, rfl⟩
        have H1 : Aside0 (frame_Windows.f 70 l a1 a2 (a2 + l.length) = some (z, 0)) := ⟨by rw [Windows_ok _ _ _ _ 70 (by omega), win_round l a1 a2 hrow ht1 ht2, hz]⟩
        have H2 : Aside0 (frame_Share.f 70 l a1 = some z) := ⟨by rw [Share_ok _ _ (by omega) 70 (by omega), hz]⟩
        clear hrow ht1 ht2 e1 hz
        go_wp2_with (go_at_call 25; refine (rampartref19_Row.calls A0 c l true w hk.out hcl.out HRow.out).mono ?_; rintro e w1 ⟨rfl, hd⟩; have K1 := Aside0.mk (Kd.C_below hk.out hd.below); have B1 := Aside0.mk hd.below; clear hd hk)
        go_wp2_with (go_at_call 17; refine (rampartref19_Tick.calls a2 true w1 HT1.out).mono ?_; rintro e w2 ⟨rfl, hd⟩; have K2 := Aside0.mk (Kd.C_below K1.out hd.below); have B2 := Aside0.mk (below_step B1.out hd.below); clear hd B1 K1 HT1)
        go_wp2_with (go_at_call 17; refine (rampartref19_Tick.calls (a2 + l.length) true w2 HT2.out).mono ?_; rintro e w3 ⟨rfl, hd⟩; have K3 := Aside0.mk (Kd.C_below K2.out hd.below); have B3 := Aside0.mk (below_step B2.out hd.below); clear hd B2 K2 HT2)
        go_wp2_with (go_at_call 11; refine (frame_Windows.calls 70 A0 c l a1 a2 (a2 + l.length) z 0 w3 K3.out hcl.out H1.out).mono ?_; rintro e w4 ⟨rfl, hd⟩; have K4 := Aside0.mk (Kd.C_below K3.out hd); have B4 := Aside0.mk (below_step B3.out hd); clear hd B3 K3)
        go_wp2_with (go_at_call 23; refine (frame_Share.calls 70 A0 c l a1 z w4 K4.out hcl.out H2.out).mono ?_; rintro e w5 ⟨rfl, hd⟩; have B5 := Aside0.mk (below_step B4.out hd.below); clear hd K4 B4)
        go_wp2_with (go_at_call 15; refine (alive_calls w5).mono ?_; rintro e w7 ⟨rfl, hd⟩; have B7 := Aside0.mk (below_step B5.out hd); clear hd B5)
        go_ret
        exact ⟨rfl, B7.out⟩
end Go.Proofs.Ytmfmliblieemiaa.QFr
