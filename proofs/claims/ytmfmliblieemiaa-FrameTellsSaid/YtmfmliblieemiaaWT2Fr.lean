/- FrameTells: the walk of the statement. -/
import Derived.Test.YtmfmliblieemiaaWTFr
import Derived.Test.YtmfmliblieemiaaWKFr
import Derived.WideLaws
import Derived.Deep.RegionHeld3
namespace Go.Proofs.Ytmfmliblieemiaa.QFr
open Go.RowKit Go.Proofs.YtmfmliblieemiaaW.PrintWords Go.Proofs.YtmfmliblieemiaaW.PrintLast Go.Proofs.YtmfmliblieemiaaW.PrintMore
set_option linter.unusedVariables false
set_option linter.unusedSimpArgs false

theorem tell_calls (w1 : World) (A : Option Addr) (c : Nat) (l : List Int) (t fr : Int) (m F U T M : Nat) (ws : World)
    (hF : w1.cell? ⟨F, 0, none⟩ = some (.slice A l.length c)) (hU : w1.cell? ⟨U, 0, none⟩ = some (.int .i64 fr)) (hT : w1.cell? ⟨T, 0, none⟩ = some (.int .i64 t)) (hM : w1.cell? ⟨M, 0, none⟩ = some (.int .i64 (m : Int)))
    (hr : Kd.C (Kd.int .i64) w1 A l.length l) (hlc : l.length ≤ c) (hG : Got w1 [] ws) (hm1 : 1 ≤ m) (hm2 : m ≤ 60) :
    Calls Try.prog 43 #[.func (.func 27) #[] #[.pointer (some ⟨w1.heap.size, 0, none⟩), .pointer (some ⟨M, 0, none⟩)], .pointer (some ⟨F, 0, none⟩), .pointer (some ⟨U, 0, none⟩), .pointer (some ⟨T, 0, none⟩)] ws fun e w' => e = .returned (.tuple #[]) ∧ Got w1 (tells l t fr m) w' := by
  by_cases h : okRow l = false ∨ 1048576 < fr
  · have e : tells l t fr m = [] := by
      unfold tells
      rcases h with h | h
      · rw [h]; rfl
      · have : ((1048577 : Int) - (mx fr 0)).toNat = 0 := by unfold mx; split <;> omega
        rw [this]; split <;> rfl
    rw [e]
    exact tell_not w1 A c l t fr F U T _ ws hF hU hT hr hlc hG h
  · have hk : okRow l = true := by cases hk : okRow l <;> simp_all
    obtain ⟨x, hx⟩ : ∃ x : Nat, mx fr 0 = x := ⟨(mx fr 0).toNat, by unfold mx; split <;> omega⟩
    have hb : x ≤ 1048576 := by have : mx fr 0 ≤ 1048576 := by unfold mx; split <;> omega
                                omega
    have e : tells l t fr m = tl l t (1048577 - x) x m := by
      unfold tells
      rw [hk, if_pos rfl, hx]
      have : ((1048577 : Int) - x).toNat = 1048577 - x := by omega
      rw [this, Int.toNat_natCast]
    exact tell_loop w1 A c l t fr m F U T M x (1048577 - x) (tells l t fr m) ws hF hU hT hM hr hlc hG hk (fun h' => h (.inr h')) hm1 hm2 hx.symm (by omega) e

/-- Behind the call of All: its three boxes, and what lay before. -/
def AllPost (w : World) (A : Option Addr) (c : Nat) (l : List Int) (t fr : Int) (m F U T : Nat) (w1 : World) : Prop :=
  Below w.heap.size w w1 ∧ w.heap.size < w1.heap.size ∧ w1.cell? ⟨F, 0, none⟩ = some (.slice A l.length c) ∧ w1.cell? ⟨U, 0, none⟩ = some (.int .i64 fr) ∧ w1.cell? ⟨T, 0, none⟩ = some (.int .i64 t) ∧
  w1.cell? ⟨w.heap.size, 0, none⟩ = some (.int .i64 (m : Int)) ∧ Kd.C (Kd.int .i64) w1 A l.length l
def AllOut (w : World) (A : Option Addr) (c : Nat) (l : List Int) (t fr : Int) (m : Nat) (e : Ending) (w1 : World) : Prop :=
  ∃ F U T : Nat, e = .returned (.func (.func 43) #[] #[.pointer (some ⟨F, 0, none⟩), .pointer (some ⟨U, 0, none⟩), .pointer (some ⟨T, 0, none⟩)]) ∧ Aside0 (AllPost w A c l t fr m F U T w1)

set_option maxHeartbeats 400000 in
theorem all_calls (w : World) (A : Option Addr) (c : Nat) (l : List Int) (t fr : Int) (m : Nat) (W : World) (hb : Below w.heap.size w W) (hbx : Boxed W w.heap.size 3 (.int .i64 (m : Int))) (hr : Kd.C (Kd.int .i64) w A l.length l) :
    Calls Try.prog 26 #[.slice A l.length c, .int .i64 t, .int .i64 fr] W (AllOut w A c l t fr m) := by
  have hmf' := hmf2
  have HX : Aside0 (AllPost w A c l t fr m W.heap.size (W.heap.size + 2) (W.heap.size + 1) (((W.alloc (.cells #[.slice A l.length c] 22)).alloc (.cells #[.int .i64 t] 3)).alloc (.cells #[.int .i64 fr] 3))) := ⟨by
    have b0 := Boxed.new W 22 (.slice A l.length c)
    have b1 := Boxed.new (W.alloc (.cells #[.slice A l.length c] 22)) 3 (.int .i64 t)
    have b2 := Boxed.new ((W.alloc (.cells #[.slice A l.length c] 22)).alloc (.cells #[.int .i64 t] 3)) 3 (.int .i64 fr)
    have h3 := below_alloc (below_alloc (below_alloc hb (.cells #[.slice A l.length c] 22)) (.cells #[.int .i64 t] 3)) (.cells #[.int .i64 fr] 3)
    have hlt := hbx.lt
    rw [World.size_alloc] at b1
    rw [World.size_alloc, World.size_alloc] at b2
    refine ⟨h3, ?_, ((b0.alloc _).alloc _).cell, b2.cell, (b1.alloc _).cell, (((hbx.alloc _).alloc _).alloc _).cell, Kd.C_below hr h3⟩
    rw [World.size_alloc, World.size_alloc, World.size_alloc]; omega⟩
  clear hb hbx hr
  go_enter Try.func26, Try.ntmps26
  go_wp2
  go_ret
  exact ⟨_, _, _, rfl, HX⟩

theorem und46 : Try.prog.underlying 46 = some (.func #[32] #[] false) := by kernel_rfl
theorem equalIn_func (d : Nat) (fn : Fn) (a b : Array Value) (w : World) : (Op.equalIn (d + 1) 46 (.func fn a b) .nilFunc).run Try.prog w = .ok false w := by
  have h := und46
  simp [Op.equalIn, run_underlying h]
theorem eq_nilFunc (fn : Fn) (a b : Array Value) (w : World) : (binOp .eql 46 (.func fn a b) .nilFunc).run Try.prog w = .ok (.bool false) w := by
  have h : (Op.equal 46 (.func fn a b) .nilFunc).run Try.prog w = .ok false w := equalIn_func 9999 fn a b w
  simp only [binOp]
  simp [h]
theorem got_new (w1 : World) : Got w1 [] (w1.alloc (.cells #[.slice none 0 0] 22)) :=
  ⟨below_alloc (Below.refl _ _) _, by rw [World.size_alloc]; omega, _, Boxed.new w1 22 _, World.ownsRow_nil _ _ _ _⟩

theorem held_below {w2 w' : World} {p q : Prop} (h : p ∧ q ∧ Aside0 (Below w2.heap.size w2 w')) : Below w2.heap.size w2 w' := h.2.2.out
theorem held_step {w2 w' w'' : World} {a b : Addr} {u v : Value} (hb : Below w'.heap.size w' w'') (h : w'.cell? a = some u ∧ w'.cell? b = some v ∧ Aside0 (Below w2.heap.size w2 w')) :
    w''.cell? a = some u ∧ w''.cell? b = some v ∧ Aside0 (Below w2.heap.size w2 w'') := ⟨pw_cell_below hb h.1, pw_cell_below hb h.2.1, ⟨below_step h.2.2.out hb⟩⟩

theorem take_C {w : World} {A : Option Addr} {l : List Int} (h : Kd.C (Kd.int .i64) w A l.length l) : Kd.C (Kd.int .i64) w A (l.take 65).length (l.take 65) := by
  by_cases h65 : 65 < l.length
  · obtain ⟨i0, hi, _, hsz, _⟩ := info_parts info3
    obtain ⟨hcut, hA, hC⟩ := print_take_of (P := Try.prog) (Value.int .i64) 0 22 3 .i64 Try.underlying22 hi hsz A l.length l 65 (by omega) (by omega) (Nat.le_refl _)
    exact Kd.C_of_reads (h1 := fun _ => rfl) (hA _ (Kd.reads_of_C h))
  · rw [List.take_of_length_le (by omega)]; exact h

set_option hygiene false in
macro "tells_tail " m:term : tactic => `(tactic| (
    go_enter Try.func8, Try.ntmps8
    go_wp2_with (first | (go_at_call 10; refine (cut_read A0 c0 l0 _ (Kd.C_alloc HR.out _) hc).mono ?_; rintro e w' ⟨l, c, rfl, hcl, hl, hk, rfl⟩) | (go_at_call 26; refine (all_calls w A0 c l a1 a2 $m _ HB0.out BX.out (by rw [hl.out]; exact take_C HR.out)).mono ?_; rintro e w1 ⟨F, U, T, rfl, HP⟩; obtain ⟨p1, p2, p3, p4, p5, p6, p7⟩ := HP.out; have P1 := Aside0.mk p1; have P3 := Aside0.mk p3; have P4 := Aside0.mk p4; have P5 := Aside0.mk p5; have P6 := Aside0.mk p6; have P7 := Aside0.mk p7; clear p1 p3 p4 p5 p6 p7 HP) | (go_at_call 43; refine (tell_calls w1 A0 c l a1 a2 $m F U T w.heap.size _ P3.out P4.out P5.out P6.out P7.out hcl.out (got_new w1) hm1.out hm2.out).mono ?_; rintro e w2 ⟨rfl, hG⟩; have HG := Aside0.mk hG; clear hG))
    obtain ⟨q1, q2, v, q3, q4⟩ := HG.out
    obtain ⟨AG, cg, rfl, hcg, hrd⟩ := own_reads_of_le (enc := Value.int .i64) (d := (0 : Int)) q4
    have HALL : Aside0 (rampartref19_All.f K l a1 a2 $m = some (tells l a1 a2 $m)) := ⟨rAll_ok l a1 a2 $m hm2.out K (by omega)⟩
    have HSAME : Aside0 (rampartref19_Same.f 70 (tells l a1 a2 $m) (tells l a1 a2 $m) = some true) := ⟨same_ok _ (Nat.le_trans (tells_len l a1 a2 $m) hm2.out)⟩
    have CG : Aside0 (Kd.C (Kd.int .i64) w2 AG (tells l a1 a2 $m).length (tells l a1 a2 $m)) := ⟨Kd.C_of_reads (h1 := fun _ => rfl) hrd⟩
    have HCG := Aside0.mk hcg
    have B2 : Aside0 (Below w.heap.size w w2) := ⟨below_step P1.out q1⟩
    have KL : Aside0 (Kd.C (Kd.int .i64) w2 A0 l.length l) := ⟨Kd.C_below P7.out q1⟩
    have g1 := q3.cell
    have g2 := pw_cell_below q1 P6.out
    clear q1 q2 q3 q4 hrd hcg HG P1 P3 P4 P5 P6 P7 BX HB0 hk hcl3 hfr3
    obtain ⟨R, hR⟩ : ∃ R, tells l a1 a2 $m = R := ⟨_, rfl⟩
    rw [hR] at HALL HSAME CG g1 HCG
    clear hR
    go_region_held3 (fun w' => w'.cell? ⟨w1.heap.size, 0, none⟩ = some (.slice AG R.length cg) ∧ w'.cell? ⟨w.heap.size, 0, none⟩ = some (.int .i64 ($m : Int)) ∧ Aside0 (Below w2.heap.size w2 w'))
      (first
        | exact ⟨g1, g2, ⟨pw_below_drewN (Below.refl _ _) 1⟩⟩
        | assumption
        | exact held_step hbb (by assumption))
      (first
        | (go_at_call 29; refine (rampartref19_All.calls K A0 c l a1 a2 $m R _ (Kd.C_below KL.out (held_below (by assumption))) hcl.out HALL.out).mono ?_; rintro e w3 ⟨v0, rfl, hkr, hbb⟩; obtain ⟨AR, cr, rfl, hcr, hCR⟩ := Kd.R_reads hkr; have HCR := Aside0.mk hCR; have Hcr := Aside0.mk hcr; clear hkr hCR hcr)
        | (go_at_call 28; refine (rampartref19_Same.calls 70 AG cg R _ _ R true _ (Kd.C_below CG.out (held_below (by assumption))) HCG.out HCR.out Hcr.out HSAME.out).mono ?_; rintro e w4 ⟨rfl, hd4⟩; have hbb := hd4.below; clear hd4)
        | (go_at_call 15; refine (alive_calls _).mono ?_; rintro e w5 ⟨rfl, hbb⟩))
    go_wp2
    go_ret
    exact ⟨rfl, below_step B2.out (held_below (by assumption))⟩))

set_option maxRecDepth 100000 in
set_option maxHeartbeats 1000000 in
theorem FrameTells_walk (A0 : Option Addr) (c0 : Nat) (l0 : List Int) (a1 a2 a3 : Int) (w : World) (hr : Kd.C (Kd.int .i64) w A0 l0.length l0) (hc : l0.length ≤ c0)
    (_b0 : BL l0) (_b1 : BI a1) (_b2 : BI a2) (_b3 : BI a3) :
    Calls Try.prog 8 #[.slice A0 l0.length c0, .int .i64 a1, .int .i64 a2, .int .i64 a3] w fun e w' => e = .returned (.bool true) ∧ Below w.heap.size w w' := by
  have HR := Aside0.mk hr
  clear hr _b0 _b1 _b2 _b3
  have hmf' := hmf2
  have hnf := eq_nilFunc
  obtain ⟨K, hK⟩ := big_round
  have bx := Boxed.new w 3 (.int .i64 a3)
  have HB0 : Aside0 (Below w.heap.size w (w.alloc (.cells #[.int .i64 a3] 3))) := ⟨below_alloc (Below.refl _ _) _⟩
  have hcl3 := bx.cell
  have hfr3 := bx.frozen
  have hca : decide (a3 < 1) = false ∧ decide (60 < a3) = false ∨ ¬ (decide (a3 < 1) = false ∧ decide (60 < a3) = false) := Classical.em _
  rcases hca with ⟨ha, hb⟩ | hcb
  · obtain ⟨m, rfl⟩ := Int.eq_ofNat_of_zero_le (show 0 ≤ a3 by have := of_decide_eq_false ha; omega)
    have hm1 : Aside0 (1 ≤ m) := ⟨by have := of_decide_eq_false ha; omega⟩
    have hm2 : Aside0 (m ≤ 60) := ⟨by have := of_decide_eq_false hb; omega⟩
    have BX := Aside0.mk bx
    clear bx
    tells_tail m
  · have HB1 : Aside0 (Below w.heap.size w (w.alloc (.cells #[.int .i64 60] 3))) := ⟨below_alloc (Below.refl _ _) _⟩
    have BX : Aside0 (Boxed (w.alloc (.cells #[.int .i64 60] 3)) w.heap.size 3 (.int .i64 ((60 : Nat) : Int))) := ⟨Boxed.new w 3 _⟩
    have hm1 : Aside0 (1 ≤ 60) := ⟨by omega⟩
    have hm2 : Aside0 (60 ≤ 60) := ⟨by omega⟩
    clear HB0 bx
    have HB0 := HB1
    clear HB1
    cases ha : decide (a3 < 1) with
    | true =>
      clear hcb
      tells_tail 60
    | false =>
      have hb : decide (60 < a3) = true := by
        cases hb : decide (60 < a3) with
        | true => rfl
        | false => exact absurd ⟨ha, hb⟩ hcb
      clear hcb
      tells_tail 60
end Go.Proofs.Ytmfmliblieemiaa.QFr
