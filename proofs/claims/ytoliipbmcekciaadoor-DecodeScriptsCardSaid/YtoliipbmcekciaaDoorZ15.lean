/- Texts of this claim, joined: Dcx3, Dcx5, rJDc, rLDc, ISDc. -/
import Derived.Test.YtoliipbmcekciaaDoorZ01
import Derived.Test.YtoliipbmcekciaaDoorZ11
import Derived.Test.YtoliipbmcekciaaDoorZ13
import Derived.Test.YtoliipbmcekciaaDoorZ14
import Derived.Laws.Bits64b
namespace Go.Proofs.YtoliipbmcekciaaDoor.QDc
open Go.RowKit Go.Proofs.YtoliipbmcekciaaDoorW.PrintWords Go.Proofs.YtoliipbmcekciaaDoorW.PrintLast Go.Proofs.YtoliipbmcekciaaDoorW.PrintMore
attribute [local go_sem] max2_int min2_int max_two min_two max_three min_three max_four min_four   -- for this text's walks alone
set_option linter.unusedVariables false
set_option linter.unusedSimpArgs false

attribute [local go_sem high] eqA75
def rampartref21_Same.l0 : Nat → List (S75) → List (S75) → Int → Option (Bool)
  | 0, _, _, _ => none
  | k + 1, x0, x1, x5 => if x5 < (x0.length : Int) then (if 0 ≤ x5 then (if x5 < (x1.length : Int) then (if ((!(((rd_T75 x0 x5).f0.f0) == ((rd_T75 x1 x5).f0.f0)) || (!(((rd_T75 x0 x5).f0.f1) == ((rd_T75 x1 x5).f0.f1)) || (!(((rd_T75 x0 x5).f0.f2) == ((rd_T75 x1 x5).f0.f2)) || (!(((rd_T75 x0 x5).f0.f3) == ((rd_T75 x1 x5).f0.f3)) || (!(((rd_T75 x0 x5).f0.f4) == ((rd_T75 x1 x5).f0.f4))))))) || (!(((rd_T75 x0 x5).f1) == ((rd_T75 x1 x5).f1)))) = true then (some false) else (rampartref21_Same.l0 k x0 x1 (wrap64 (x5 + 1)))) else (none)) else (none)) else (some true)
def rampartref21_Same.f (k : Nat) (l0 : List (S75)) (l1 : List (S75)) : Option (Bool) := if (l0.length : Int) = (l1.length : Int) then (rampartref21_Same.l0 k l0 l1 0) else (some false)
set_option maxHeartbeats 8000000 in
set_option maxRecDepth 100000 in
theorem rampartref21_Same.calls (k : Nat) (A0 : Option Addr) (c0 : Nat) (l0 : List (S75)) (A1 : Option Addr) (c1 : Nat) (l1 : List (S75)) (r : Bool) (w : World) (hr0 : Kd.C k75 w A0 l0.length l0) (hc0 : l0.length ≤ c0) (hr1 : Kd.C k75 w A1 l1.length l1) (hc1 : l1.length ≤ c1) (h : rampartref21_Same.f k l0 l1 = some r) :
    Calls Tryd.prog 11 #[.slice A0 l0.length c0, .slice A1 l1.length c1] w fun e w' => e = .returned (.bool r) ∧ Drawn0 w w' := by
  have hu75 := Tryd.underlying75
  have HR0 := Aside0.mk hr0
  have HC0 := Aside0.mk hc0
  clear hr0 hc0
  have HR1 := Aside0.mk hr1
  have HC1 := Aside0.mk hc1
  clear hr1 hc1
  have H : (if (l0.length : Int) = (l1.length : Int) then (rampartref21_Same.l0 k l0 l1 0) else (some false)) = some r := h
  clear h
  by_cases c3 : (l0.length : Int) = (l1.length : Int)
  · rw [if_pos c3] at H
    have c3b0 : ((l0.length : Int) == (l1.length : Int)) = true := beq_iff_eq.mpr c3
    have c3b1 : ((l0.length : Int) != (l1.length : Int)) = false := bne_eq_false_iff_eq.mpr c3
    have c3b2 : (l0.length == l1.length) = true := by first | simpa using c3 | (simp at c3 ⊢; omega)
    clear c3
    have H' := Aside0.mk H
    clear H
    go_enter Tryd.func11, Tryd.ntmps11
    go_wp2
    repeat (go_quiet (fail); try go_wp2)
    go_loopg [5] k (fun kq v5 w' => ∃ (x5_1 : Int), v5 = .int .i64 x5_1 ∧ Aside0 (rampartref21_Same.l0 kq l0 l1 x5_1 = some r) ∧ Aside0 (kq ≤ k) ∧ Drawn0 w w')
    case atStart => exact ⟨(0), (by first | rfl | (simp; done) | (simp [*]; done)), H', ⟨Nat.le_refl _⟩, by repeat (first | exact Drawn0.refl _ | apply Drawn0.step)⟩
    case round =>
      clear H'
      try clear c1
      try clear p2
      try clear c3
      try clear c3b0
      try clear c3b1
      try clear c3b2
      obtain ⟨x5_1, rfl, HA, HK1, ⟨m1, rfl⟩⟩ := hrel
      cases gk with
      | zero => exact absurd HA.out (by simp [rampartref21_Same.l0])
      | succ k1 =>
        have H := HA.out
        clear HA
        simp only [rampartref21_Same.l0] at H
        by_cases c4 : x5_1 < (l0.length : Int)
        · rw [if_pos c4] at H
          have c4b0 : decide (x5_1 < (l0.length : Int)) = true := decide_eq_true c4
          clear c4
          by_cases c5 : 0 ≤ x5_1
          · rw [if_pos c5] at H
            have c5b0 : decide (0 ≤ x5_1) = true := decide_eq_true c5
            clear c5
            by_cases c6 : x5_1 < (l1.length : Int)
            · rw [if_pos c6] at H
              have c6b0 : decide (x5_1 < (l1.length : Int)) = true := decide_eq_true c6
              clear c6
              by_cases c7 : ((!(((rd_T75 l0 x5_1).f0.f0) == ((rd_T75 l1 x5_1).f0.f0)) || (!(((rd_T75 l0 x5_1).f0.f1) == ((rd_T75 l1 x5_1).f0.f1)) || (!(((rd_T75 l0 x5_1).f0.f2) == ((rd_T75 l1 x5_1).f0.f2)) || (!(((rd_T75 l0 x5_1).f0.f3) == ((rd_T75 l1 x5_1).f0.f3)) || (!(((rd_T75 l0 x5_1).f0.f4) == ((rd_T75 l1 x5_1).f0.f4))))))) || (!(((rd_T75 l0 x5_1).f1) == ((rd_T75 l1 x5_1).f1)))) = true
              · rw [if_pos c7] at H
                have c7b0 : ((!(((rd_T75 l0 x5_1).f0.f0) == ((rd_T75 l1 x5_1).f0.f0)) || (!(((rd_T75 l0 x5_1).f0.f1) == ((rd_T75 l1 x5_1).f0.f1)) || (!(((rd_T75 l0 x5_1).f0.f2) == ((rd_T75 l1 x5_1).f0.f2)) || (!(((rd_T75 l0 x5_1).f0.f3) == ((rd_T75 l1 x5_1).f0.f3)) || (!(((rd_T75 l0 x5_1).f0.f4) == ((rd_T75 l1 x5_1).f0.f4))))))) || (!(((rd_T75 l0 x5_1).f1) == ((rd_T75 l1 x5_1).f1)))) = true := c7
                clear c7
                obtain rfl := Option.some.inj H
                have p105 : 0 ≤ (x5_1 : Int) := of_decide_eq_true (by first | (with_reducible assumption) | assumption)
                have q105 : x5_1 < (l0.length : Int) := of_decide_eq_true (by first | (with_reducible assumption) | assumption)
                obtain ⟨ad105, e105, hx105_0, hx105_1, hx105_2, hx105_3, hx105_4, hx105_5⟩ := at_T75 HR0.out x5_1 p105 q105
                cases e105
                replace p105 := eq_true p105
                replace q105 := eq_true q105
                have p106 : 0 ≤ (x5_1 : Int) := of_decide_eq_true (by first | (with_reducible assumption) | assumption)
                have q106 : x5_1 < (l1.length : Int) := of_decide_eq_true (by first | (with_reducible assumption) | assumption)
                obtain ⟨ad106, e106, hx106_0, hx106_1, hx106_2, hx106_3, hx106_4, hx106_5⟩ := at_T75 HR1.out x5_1 p106 q106
                cases e106
                replace p106 := eq_true p106
                replace q106 := eq_true q106
                go_wp2
                repeat (go_quiet (fail); try go_wp2)
                go_ret
                exact ⟨by first | rfl | (simp; done) | (simp [*]; done), by repeat (first | exact Drawn0.refl _ | apply Drawn0.step)⟩
              · rw [if_neg c7] at H
                have c7b0 : ((!(((rd_T75 l0 x5_1).f0.f0) == ((rd_T75 l1 x5_1).f0.f0)) || (!(((rd_T75 l0 x5_1).f0.f1) == ((rd_T75 l1 x5_1).f0.f1)) || (!(((rd_T75 l0 x5_1).f0.f2) == ((rd_T75 l1 x5_1).f0.f2)) || (!(((rd_T75 l0 x5_1).f0.f3) == ((rd_T75 l1 x5_1).f0.f3)) || (!(((rd_T75 l0 x5_1).f0.f4) == ((rd_T75 l1 x5_1).f0.f4))))))) || (!(((rd_T75 l0 x5_1).f1) == ((rd_T75 l1 x5_1).f1)))) = false := by simpa using c7
                clear c7
                have H' := Aside0.mk H
                clear H
                have p105 : 0 ≤ (x5_1 : Int) := of_decide_eq_true (by first | (with_reducible assumption) | assumption)
                have q105 : x5_1 < (l0.length : Int) := of_decide_eq_true (by first | (with_reducible assumption) | assumption)
                obtain ⟨ad105, e105, hx105_0, hx105_1, hx105_2, hx105_3, hx105_4, hx105_5⟩ := at_T75 HR0.out x5_1 p105 q105
                cases e105
                replace p105 := eq_true p105
                replace q105 := eq_true q105
                have p106 : 0 ≤ (x5_1 : Int) := of_decide_eq_true (by first | (with_reducible assumption) | assumption)
                have q106 : x5_1 < (l1.length : Int) := of_decide_eq_true (by first | (with_reducible assumption) | assumption)
                obtain ⟨ad106, e106, hx106_0, hx106_1, hx106_2, hx106_3, hx106_4, hx106_5⟩ := at_T75 HR1.out x5_1 p106 q106
                cases e106
                replace p106 := eq_true p106
                replace q106 := eq_true q106
                go_wp2
                repeat (go_quiet (fail); try go_wp2)
                go_roundg k1
                case measure => have := HK1.out; omega
                case rel => exact ⟨(wrap64 (x5_1 + 1)), (by first | rfl | (simp; done) | (simp [*]; done)), H', ⟨by have := HK1.out; omega⟩, by repeat (first | exact Drawn0.refl _ | apply Drawn0.step)⟩
            · rw [if_neg c6] at H
              exact absurd H (by simp)
          · rw [if_neg c5] at H
            exact absurd H (by simp)
        · rw [if_neg c4] at H
          have c4b0 : decide (x5_1 < (l0.length : Int)) = false := decide_eq_false c4
          clear c4
          obtain rfl := Option.some.inj H
          go_wp2
          repeat (go_quiet (fail); try go_wp2)
          go_ret
          exact ⟨by first | rfl | (simp; done) | (simp [*]; done), by repeat (first | exact Drawn0.refl _ | apply Drawn0.step)⟩
  · rw [if_neg c3] at H
    have c3b0 : ((l0.length : Int) == (l1.length : Int)) = false := beq_eq_false_iff_ne.mpr c3
    have c3b1 : ((l0.length : Int) != (l1.length : Int)) = true := bne_iff_ne.mpr c3
    have c3b2 : (l0.length == l1.length) = false := by first | simpa using c3 | (simp at c3 ⊢; omega)
    obtain rfl := Option.some.inj H
    go_enter Tryd.func11, Tryd.ntmps11
    go_wp2
    repeat (go_quiet (fail); try go_wp2)
    go_ret
    exact ⟨by first | rfl | (simp; done) | (simp [*]; done), by repeat (first | exact Drawn0.refl _ | apply Drawn0.step)⟩

def rampartref03_Split.l0 : Nat → List Int → Int → List (List Int) → Option ((List (List Int)))
  | 0, _, _, _ => none
  | k + 1, x0, x1, x5 => if (x0.length : Int) > 0 then (if (x5.length : Int) < x1 then ((some (([] : List Int) : List Int)).bind fun y107 => (if 0 ≤ (mn (x0.length : Int) 16) then (if (mn (x0.length : Int) 16) ≤ (x0.length : Int) then ((some (x0.take ((mn (x0.length : Int) 16) : Int).toNat : List Int)).bind fun y110 => (if y107.length + y110.length < 140737488355328 then (if x5.length < 5864062014805 then (rampartref03_Split.l0 k (x0.drop ((mn (x0.length : Int) 16) : Int).toNat) x1 (x5 ++ [(y107 ++ y110)])) else (none)) else (none))) else (none)) else (none))) else (some x5)) else (some x5)
def rampartref03_Split.f (k : Nat) (l0 : List Int) (a1 : Int) : Option ((List (List Int))) := rampartref03_Split.l0 k l0 a1 ([] : List (List Int))
set_option maxHeartbeats 8000000 in
set_option maxRecDepth 100000 in
theorem rampartref03_Split.calls (k : Nat) (P0_ : Nat → Prop) (A0 : Option Addr) (c0 : Nat) (l0 : List Int) (a1 : Int) (r : List (List Int)) (w : World) (hs0 : Kd.V (Kd.int .u8) 5 w w.heap.size (fun k_ => P0_ k_) (.slice A0 l0.length c0) l0) (h : rampartref03_Split.f k l0 a1 = some r) :
    Calls Tryd.prog 33 #[.slice A0 l0.length c0, .int .i64 a1] w fun e w' => ∃ v0_ : Value, e = .returned (v0_) ∧ Kd.S (Kd.slice 5 (Kd.int .u8)) 38 w' w.heap.size (fun k_ => (w.heap.size ≤ k_)) v0_ r ∧ Below w.heap.size w w' := by
  have HO0 := Aside0.mk (show Kd.V (Kd.int .u8) 5 w w.heap.size (fun k_ => (P0_ k_ ∨ w.heap.size ≤ k_)) (.slice A0 l0.length c0) l0 from Kd.V_mono hs0 (fun k_ hk => .inl hk))
  have HB := Aside0.mk (Below.refl w.heap.size w)
  have H : (rampartref03_Split.l0 k l0 a1 ([] : List (List Int))) = some r := h
  clear h
  have H' := Aside0.mk H
  clear H
  go_enter Tryd.func33, Tryd.ntmps33
  go_wp2
  go_loopg [0, 5] k (fun kq v0 v5 w' => ∃ (x0_1 : List Int) (x5_1 : List (List Int)), Aside0 (rampartref03_Split.l0 kq x0_1 a1 x5_1 = some r) ∧ Aside0 (kq ≤ k) ∧ Aside0 (Kd.V (Kd.int .u8) 5 w' w.heap.size (fun k_ => (P0_ k_ ∨ w.heap.size ≤ k_) ∧ some k_ ≠ (v5 : Value).ownBlock) v0 x0_1) ∧ Aside0 (Kd.S (Kd.slice 5 (Kd.int .u8)) 38 w' w.heap.size (fun k_ => (w.heap.size ≤ k_)) v5 x5_1) ∧ Aside0 (Below w.heap.size w w'))
  case atStart => exact ⟨(l0), (([] : List (List Int))), H', ⟨Nat.le_refl _⟩, ⟨by (with_reducible repeat (first | apply Kd.V_alloc | apply Kd.V_drewN | apply Kd.V_drew)); exact Kd.V_mono HO0.out (fun _ hk => ⟨hk, (by simp [Value.ownBlock])⟩)⟩, ⟨by first | exact Kd.S_nil _ _ _ _ _ | exact Kd.N_nil _ _ _ _ _ | exact Kd.V_nil _ _ _ _ _ | exact Kd.Q_nil _ _ _ _ _ | exact Kd.R_nil _ _ _ _ _⟩, ⟨by repeat (first | (with_reducible first | exact HB.out | apply below_alloc | apply pw_below_drewN | apply below_drew1) | exact HB.out)⟩⟩
  case round =>
    clear H'
    try clear p2
    obtain ⟨x0_1, x5_1, HA, HK1, HO_0, HO_5, HB⟩ := hrel
    cases gk with
    | zero => exact absurd HA.out (by simp [rampartref03_Split.l0])
    | succ k1 =>
      have H := HA.out
      clear HA
      simp only [rampartref03_Split.l0] at H
      by_cases c3 : (x0_1.length : Int) > 0
      · rw [if_pos c3] at H
        have c3b0 : decide (0 < (x0_1.length : Int)) = true := decide_eq_true c3
        have c3b1 : decide (0 < x0_1.length) = true := decide_eq_true (by omega)
        clear c3
        by_cases c4 : (x5_1.length : Int) < a1
        · rw [if_pos c4] at H
          have c4b0 : decide ((x5_1.length : Int) < a1) = true := decide_eq_true c4
          clear c4
          obtain ⟨ji5, hji5⟩ : ∃ j_ : Int, (mn (x0_1.length : Int) 16) = j_ := ⟨_, rfl⟩
          replace H : ((some (([] : List Int) : List Int)).bind fun y107 => (if 0 ≤ (ji5) then (if (ji5) ≤ (x0_1.length : Int) then ((some (x0_1.take ((ji5) : Int).toNat : List Int)).bind fun y110 => (if y107.length + y110.length < 140737488355328 then (if x5_1.length < 5864062014805 then (rampartref03_Split.l0 k1 (x0_1.drop ((ji5) : Int).toNat) a1 (x5_1 ++ [(y107 ++ y110)])) else (none)) else (none))) else (none)) else (none))) = some r := by first | (rw [hji5] at H; exact H) | (simp only [hji5] at H ⊢; exact H)
          have hji5_ : (if 16 < (x0_1.length : Int) then 16 else (x0_1.length : Int)) = ji5 := hji5
          obtain ⟨y107, hy107⟩ : ∃ y_ : List Int, y_ = (([] : List Int)) := ⟨_, rfl⟩
          replace H : (if 0 ≤ (ji5) then (if (ji5) ≤ (x0_1.length : Int) then ((some (x0_1.take ((ji5) : Int).toNat : List Int)).bind fun y110 => (if y107.length + y110.length < 140737488355328 then (if x5_1.length < 5864062014805 then (rampartref03_Split.l0 k1 (x0_1.drop ((ji5) : Int).toNat) a1 (x5_1 ++ [(y107 ++ y110)])) else (none)) else (none))) else (none)) else (none)) = some r := by first | (rw [hy107]; with_reducible exact H) | (have H2_ := (Option.bind_some _ _).symm.trans H; rw [hy107]; with_reducible exact H2_) | (have H2_ := (Option.bind_some _ _).symm.trans H; with_reducible exact H2_) | with_reducible exact H | (rw [hy107]; exact H) | exact H
          have Ny107 := Aside0.mk hy107
          clear hy107
          by_cases c6 : 0 ≤ (ji5)
          · rw [if_pos c6] at H
            have c6b0 := eq_true c6
            have c6b1 : decide (0 ≤ (ji5)) = true := decide_eq_true c6
            clear c6
            by_cases c7 : (ji5) ≤ (x0_1.length : Int)
            · rw [if_pos c7] at H
              have c7b0 := eq_true c7
              have c7b1 : decide ((ji5) ≤ (x0_1.length : Int)) = true := decide_eq_true c7
              clear c7
              obtain ⟨y110, hy110⟩ : ∃ y_ : List Int, y_ = (x0_1.take ((ji5) : Int).toNat) := ⟨_, rfl⟩
              replace H : (if y107.length + y110.length < 140737488355328 then (if x5_1.length < 5864062014805 then (rampartref03_Split.l0 k1 (x0_1.drop ((ji5) : Int).toNat) a1 (x5_1 ++ [(y107 ++ y110)])) else (none)) else (none)) = some r := by first | (rw [hy110]; with_reducible exact H) | (have H2_ := (Option.bind_some _ _).symm.trans H; rw [hy110]; with_reducible exact H2_) | (have H2_ := (Option.bind_some _ _).symm.trans H; with_reducible exact H2_) | with_reducible exact H | (rw [hy110]; exact H) | exact H
              have Ny110 := Aside0.mk hy110
              clear hy110
              by_cases c8 : y107.length + y110.length < 140737488355328
              · rw [if_pos c8] at H
                have LMc8 := Aside0.mk c8
                clear c8
                obtain ⟨y115, hy115⟩ : ∃ y_ : List Int, y_ = (y107 ++ y110) := ⟨_, rfl⟩
                replace H : (if x5_1.length < 5864062014805 then (rampartref03_Split.l0 k1 (x0_1.drop ((ji5) : Int).toNat) a1 (x5_1 ++ [y115])) else (none)) = some r := by first | (rw [hy115]; with_reducible exact H) | (have H2_ := (Option.bind_some _ _).symm.trans H; rw [hy115]; with_reducible exact H2_) | (have H2_ := (Option.bind_some _ _).symm.trans H; with_reducible exact H2_) | with_reducible exact H | (rw [hy115]; exact H) | exact H
                have Ny115 := Aside0.mk hy115
                clear hy115
                by_cases c9 : x5_1.length < 5864062014805
                · rw [if_pos c9] at H
                  have LMc9 := Aside0.mk c9
                  clear c9
                  obtain ⟨y118, hy118⟩ : ∃ y_ : List (List Int), y_ = (x5_1 ++ [y115]) := ⟨_, rfl⟩
                  replace H : (rampartref03_Split.l0 k1 (x0_1.drop ((ji5) : Int).toNat) a1 y118) = some r := by first | (rw [hy118]; with_reducible exact H) | (have H2_ := (Option.bind_some _ _).symm.trans H; rw [hy118]; with_reducible exact H2_) | (have H2_ := (Option.bind_some _ _).symm.trans H; with_reducible exact H2_) | with_reducible exact H | (rw [hy118]; exact H) | exact H
                  have Ny118 := Aside0.mk hy118
                  clear hy118
                  have c10b0 := eq_true (of_decide_eq_true (by first | (with_reducible assumption) | assumption) : 0 ≤ (ji5))
                  have c11b0 := eq_true (of_decide_eq_true (by first | (with_reducible assumption) | assumption) : (ji5) ≤ (x0_1.length : Int))
                  obtain ⟨y121, hy121⟩ : ∃ y_ : List Int, y_ = (x0_1.drop ((ji5) : Int).toNat) := ⟨_, rfl⟩
                  replace H : (rampartref03_Split.l0 k1 y121 a1 y118) = some r := by first | (rw [hy121]; with_reducible exact H) | (have H2_ := (Option.bind_some _ _).symm.trans H; rw [hy121]; with_reducible exact H2_) | (have H2_ := (Option.bind_some _ _).symm.trans H; with_reducible exact H2_) | with_reducible exact H | (rw [hy121]; exact H) | exact H
                  have Ny121 := Aside0.mk hy121
                  clear hy121
                  have H' := Aside0.mk H
                  clear H
                  obtain ⟨Ao12, co12, eo12⟩ := Kd.V_slice HO_0.out
                  subst eo12
                  obtain ⟨Ao13, co13, eo13⟩ := Kd.S_slice HO_5.out
                  subst eo13
                  go_wp2_with (first | ((with_reducible refine gate_dst (N := 20) rfl ?_); (try (refine gate_guard (by rfl) ?_; dsimp only)); refine Kd.R_lit (Kd.int .u8) _ 5 ?hg (N := 20) ?hd (xs := ([] : List Int)) (inner := []) (ok := fun _ => True) (okp := fun _ => True) ?hr ?hp (fun _ hk => hk) trivial (Below.refl _ _) (Nat.le_refl _) (by simp) ?_; (case hd => rfl); (case hg => rfl); (case hr => first | (go_simp; done) | (go_simp; rfl)); (case hp => exact (Reps.none _ _)); intro v108 w14 ho15 hb hg_ hnew_; clear hg_ hnew_; (first | rw [← Ny107.out] at ho15 | (simp only [Int.reduceToNat] at ho15; rw [← Ny107.out] at ho15)); have n0_ := Aside0.mk (Kd.V_elder' (by (with_reducible repeat (first | apply Kd.V_alloc | apply Kd.V_drewN | apply Kd.V_drew)); exact HO_0.out) (Kd.R_base ho15) hb); have n1_ := Aside0.mk (Kd.S_elder' (by (with_reducible repeat (first | apply Kd.S_alloc | apply Kd.S_drewN | apply Kd.S_drew)); exact HO_5.out) (Kd.R_base ho15) hb); have n2_ := Aside0.mk (Kd.R_lower (Kd.R_newM (M := fun k_ => (w.heap.size ≤ k_)) ho15 (below_size (by repeat (first | (with_reducible first | exact HB.out | apply below_alloc | apply pw_below_drewN | apply below_drew1) | exact HB.out))) (fun k_ h_ => h_)) (below_size (by repeat (first | (with_reducible first | exact HB.out | apply below_alloc | apply pw_below_drewN | apply below_drew1) | exact HB.out)))); have n3_ := Aside0.mk (below_step (by repeat (first | (with_reducible first | exact HB.out | apply below_alloc | apply pw_below_drewN | apply below_drew1) | exact HB.out)) hb); clear HO_0; clear HO_5; clear HB; have HO_0 := n0_; have HO_5 := n1_; have HO109 := n2_; have HB := n3_; clear n0_ n1_ n2_ n3_; clear hb ho15; have q16 : ((ji5) : Int) ≤ ((x0_1.length : Int) : Int) := of_decide_eq_true (by first | (with_reducible assumption) | assumption); obtain ⟨i016, hi016, _, hsz16, _⟩ := info_parts info5; have hroom16 : x0_1.length ≤ co12 := (Kd.V_reads' HO_0.out).2.1; have hC16 : Kd.F (Kd.int .u8) _ _ Ao12 x0_1.length x0_1 := (Kd.V_at (base := w.heap.size) HO_0.out).2.2; have hcut16 := cut_to (P := Tryd.prog) 38 5 .i64 Tryd.underlying38 hi016 Ao12 x0_1.length co12 (ji5) (of_decide_eq_true (by first | (with_reducible assumption) | assumption)) q16 hroom16; have hr16 := Kd.F_take (m := ((ji5) : Int).toNat) hC16 (by omega); have hy16 : y110.length = ((ji5) : Int).toNat := (by rw [Ny110.out, List.length_take]; omega); rw [← Ny110.out] at hr16; rw [← hy16] at hcut16; have HO114 := Aside0.mk (show Kd.V (Kd.int .u8) 5 _ w.heap.size _ (.slice Ao12 y110.length co12) y110 from Kd.V_mk (by omega) hr16); have HC114 := Aside0.mk (show y110.length ≤ co12 from by omega); clear hr16 hC16 hroom16 hi016 hsz16; have KY16 := Aside0.mk hy16; clear hy16; replace q16 := eq_true q16) | ((with_reducible refine gate_builtin (b := .append) (xs := #[.tmp 20, .tmp 23]) rfl ?_); (try (refine gate_guard (by rfl) ?_; dsimp only)); at_builtin; refine Kd.R_append_rows (Kd.int .u8) (w0 := w) w.heap.size rfl (.tmp 20) (.tmp 23) 38 5 (.int .u8 0) 1 rfl Tryd.underlying38 info5 rfl (by decide) (by omega) v108 y107 y110 _ _ _ (fun k_ => (w.heap.size ≤ k_)) (fun _ => False) rfl rfl ?aO ?aR (fun _ _ h => h) (fun _ h => h.elim) ?aF ?aB ?aS ?aL ?_; (case aR => repeat (first | exact (Kd.V_reads' HO114.out).2.2 | (with_reducible refine Kd.C_alloc ?_ _) | (with_reducible refine Kd.C_drewN ?_ _) | (with_reducible refine Kd.C_drew ?_))); (case aB => exact (by repeat (first | (with_reducible first | exact HB.out | apply below_alloc | apply pw_below_drewN | apply below_drew1) | exact HB.out))); (case aF => exact (fun k_ hk => (Nat.le_trans (below_size (by repeat (first | (with_reducible first | exact HB.out | apply below_alloc | apply pw_below_drewN | apply below_drew1) | exact HB.out))) hk))); (case aO => exact (by (with_reducible repeat (first | apply Kd.R_alloc | apply Kd.R_drewN | apply Kd.R_drew)); exact Kd.R_mono HO109.out (fun _ hk => hk.1))); (case aS => exact (below_size (by repeat (first | (with_reducible first | exact HB.out | apply below_alloc | apply pw_below_drewN | apply below_drew1) | exact HB.out)))); (case aL => have := LMc8.out; omega); intro v116 w17 ho hb hg hat; rw [← Ny115.out] at ho; have n0_ := Aside0.mk (Kd.V_afterv (ok := (fun k_ => (P0_ k_ ∨ w.heap.size ≤ k_) ∧ some k_ ≠ (.slice Ao13 x5_1.length co13 : Value).ownBlock)) (by (with_reducible repeat (first | apply Kd.V_alloc | apply Kd.V_drewN | apply Kd.V_drew)); exact HO_0.out) hg hat); have n1_ := Aside0.mk (Kd.S_after (ok := (fun k_ => (w.heap.size ≤ k_))) (by (with_reducible repeat (first | apply Kd.S_alloc | apply Kd.S_drewN | apply Kd.S_drew)); exact HO_5.out) hg hat); have n2_ := Aside0.mk (Kd.V_afterv (ok := (fun k_ => (P0_ k_ ∨ w.heap.size ≤ k_) ∧ some k_ ≠ (.slice Ao13 x5_1.length co13 : Value).ownBlock)) (by (with_reducible repeat (first | apply Kd.V_alloc | apply Kd.V_drewN | apply Kd.V_drew)); exact HO114.out) hg hat); have n3_ := Aside0.mk (hb); have n4_ := Aside0.mk (ho); clear HO_0; clear HO_5; clear HO114; clear HB; clear HO109; have HO_0 := n0_; have HO_5 := n1_; have HO114 := n2_; have HB := n3_; have HO117 := n4_; clear n0_ n1_ n2_ n3_ n4_; clear ho hb hg hat; obtain ⟨Ao19, co19, eo19⟩ := Kd.R_slice HO117.out; subst eo19) | ((with_reducible refine gate_builtin (b := .append) (xs := #[.tmp 19, .tmp 25]) rfl ?_); (try (refine gate_guard (by rfl) ?_; dsimp only)); at_builtin; refine Kd.S_append (Kd.slice 5 (Kd.int .u8)) (w0 := w) w.heap.size rfl (.tmp 19) (.tmp 25) 29 38 (.slice none 0 0) 24 rfl Tryd.underlying29 info38 rfl (by decide) (by omega) (.slice Ao13 x5_1.length co13) x5_1 y115 [.slice Ao19 y115.length co19] (fun k_ => (w.heap.size ≤ k_)) (fun k_ => some k_ = (.slice Ao19 y115.length co19 : Value).ownBlock) rfl rfl ?aP (fun k_ hk_ => ((Kd.R_mono (ok' := fun k_ => ((fun k_ => (w.heap.size ≤ k_))) k_ ∧ some k_ ≠ (.slice Ao13 x5_1.length co13 : Value).ownBlock) (Kd.R_apart' (HO117.out) (Kd.S_typed HO_5.out) (by decide)) (fun k_ hk => ⟨hk.1, hk.2⟩))).1 k_ hk_.symm) ?aF ?aO ?aB ?aS ?aL ?_; (case aP => exact Kd.M_row (Kd.R_mono (Kd.R_tight rfl (Kd.R_mono (ok' := fun k_ => ((fun k_ => (w.heap.size ≤ k_))) k_ ∧ some k_ ≠ (.slice Ao13 x5_1.length co13 : Value).ownBlock) (Kd.R_apart' (HO117.out) (Kd.S_typed HO_5.out) (by decide)) (fun k_ hk => ⟨hk.1, hk.2⟩))) (fun _ h_ => h_))); (case aB => exact (by repeat (first | (with_reducible first | exact HB.out | apply below_alloc | apply pw_below_drewN | apply below_drew1) | exact HB.out))); (case aF => exact (fun k_ hk => (Nat.le_trans (below_size (by repeat (first | (with_reducible first | exact HB.out | apply below_alloc | apply pw_below_drewN | apply below_drew1) | exact HB.out))) hk))); (case aO => exact (by (with_reducible repeat (first | apply Kd.S_alloc | apply Kd.S_drewN | apply Kd.S_drew)); exact Kd.S_mono HO_5.out (fun k_ hk => ⟨hk.1, fun e_ => hk.2 e_⟩))); (case aS => exact (below_size (by repeat (first | (with_reducible first | exact HB.out | apply below_alloc | apply pw_below_drewN | apply below_drew1) | exact HB.out)))); (case aL => have := LMc9.out; omega); intro v119 w18 ho hb hg hat; rw [← Ny118.out] at ho; have n0_ := Aside0.mk (Kd.V_afterv (ok := (fun k_ => (P0_ k_ ∨ w.heap.size ≤ k_) ∧ some k_ ≠ (.slice Ao19 y115.length co19 : Value).ownBlock)) (by (with_reducible repeat (first | apply Kd.V_alloc | apply Kd.V_drewN | apply Kd.V_drew)); exact Kd.V_mono HO_0.out (fun _ hk => ⟨⟨hk.1.1, hk.2⟩, hk.1.2⟩)) hg hat); have n1_ := Aside0.mk (Kd.V_afterv (ok := (fun k_ => (P0_ k_ ∨ w.heap.size ≤ k_) ∧ some k_ ≠ (.slice Ao19 y115.length co19 : Value).ownBlock)) (by (with_reducible repeat (first | apply Kd.V_alloc | apply Kd.V_drewN | apply Kd.V_drew)); exact Kd.V_mono HO114.out (fun _ hk => ⟨⟨hk.1.1, hk.2⟩, hk.1.2⟩)) hg hat); have n2_ := Aside0.mk (hb); have n3_ := Aside0.mk (ho); clear HO_0; clear HO114; clear HB; clear HO_5; clear HO117; have HO_0 := n0_; have HO114 := n1_; have HB := n2_; have HO120 := n3_; clear n0_ n1_ n2_ n3_; clear ho hb hg hat; have q20 : ((ji5) : Int) ≤ ((x0_1.length : Int) : Int) := of_decide_eq_true (by first | (with_reducible assumption) | assumption); obtain ⟨i020, hi020, _, hsz20, _⟩ := info_parts info5; have hroom20 : x0_1.length ≤ co12 := (Kd.V_reads' HO_0.out).2.1; have hC20 : Kd.F (Kd.int .u8) _ _ Ao12 x0_1.length x0_1 := (Kd.V_at (base := w.heap.size) HO_0.out).2.2; have q020 : (0 : Int) ≤ ((ji5) : Int) := of_decide_eq_true (by first | (with_reducible assumption) | assumption); have hcut20 := cut_from (P := Tryd.prog) 38 5 .i64 Tryd.underlying38 hi020 1 hsz20 Ao12 x0_1.length co12 (ji5) q020 q20; have hr20 := Kd.F_cut (m := ((ji5) : Int).toNat) (c := co12) hC20 (by omega) hroom20; obtain ⟨A20, hA20⟩ : ∃ A1, A1 = (if co12 = ((ji5) : Int).toNat then Ao12 else (Ao12 : Option Addr).map (·.add (((ji5) : Int).toNat * 1))) := ⟨_, rfl⟩; obtain ⟨c20, hc20⟩ : ∃ c1, c1 = co12 - ((ji5) : Int).toNat := ⟨_, rfl⟩; have hy20 : y121.length = x0_1.length - ((ji5) : Int).toNat := (by rw [Ny121.out, List.length_drop] <;> omega); rw [show (x0_1).drop ((ji5) : Int).toNat = y121 from Ny121.out.symm] at hr20; replace hr20 : Kd.F (Kd.int .u8) _ _ A20 y121.length y121 := (by rw [hA20]; exact hr20); rw [← hy20, ← hA20, ← hc20] at hcut20; have HO125 := Aside0.mk (show Kd.V (Kd.int .u8) 5 _ w.heap.size _ (.slice A20 y121.length c20) y121 from Kd.V_mk (by rw [hy20, hc20]; exact Nat.sub_le_sub_right hroom20 _) hr20); have HC125 := Aside0.mk (show y121.length ≤ c20 from by rw [hy20, hc20]; exact Nat.sub_le_sub_right hroom20 _); clear hr20 hC20 hroom20 hi020 hsz20 hc20; have KY20 := Aside0.mk hy20; have KA20 := Aside0.mk hA20; clear hy20 hA20; replace q20 := eq_true q20))
                  go_roundg k1
                  case measure => have := HK1.out; omega
                  case rel => exact ⟨(y121), (y118), H', ⟨by have := HK1.out; omega⟩, ⟨by (with_reducible repeat (first | apply Kd.V_alloc | apply Kd.V_drewN | apply Kd.V_drew)); exact Kd.V_mono HO125.out (fun _ hk => ⟨hk.1.1, hk.2⟩)⟩, ⟨by (with_reducible repeat (first | apply Kd.S_alloc | apply Kd.S_drewN | apply Kd.S_drew)); exact HO120.out⟩, ⟨by repeat (first | (with_reducible first | exact HB.out | apply below_alloc | apply pw_below_drewN | apply below_drew1) | exact HB.out)⟩⟩
                · rw [if_neg c9] at H
                  exact absurd H (by simp)
              · rw [if_neg c8] at H
                exact absurd H (by simp)
            · rw [if_neg c7] at H
              exact absurd H (by simp)
          · rw [if_neg c6] at H
            exact absurd H (by simp)
        · rw [if_neg c4] at H
          have c4b0 : decide ((x5_1.length : Int) < a1) = false := decide_eq_false c4
          clear c4
          obtain rfl := Option.some.inj H
          obtain ⟨Ao21, co21, eo21⟩ := Kd.V_slice HO_0.out
          subst eo21
          obtain ⟨Ao22, co22, eo22⟩ := Kd.S_slice HO_5.out
          subst eo22
          go_wp2
          go_ret
          exact ⟨_, by first | rfl | (simp [errW_none, errW_some] <;> rfl) | (simp [*, errW_none, errW_some] <;> rfl), by (with_reducible repeat (first | apply Kd.S_alloc | apply Kd.S_drewN | apply Kd.S_drew)); exact HO_5.out, by repeat (first | (with_reducible first | exact HB.out | apply below_alloc | apply pw_below_drewN | apply below_drew1) | exact HB.out)⟩
      · rw [if_neg c3] at H
        have c3b0 : decide (0 < (x0_1.length : Int)) = false := decide_eq_false c3
        have c3b1 : decide (0 < x0_1.length) = false := decide_eq_false (by omega)
        clear c3
        obtain rfl := Option.some.inj H
        obtain ⟨Ao23, co23, eo23⟩ := Kd.V_slice HO_0.out
        subst eo23
        go_wp2
        go_ret
        exact ⟨_, by first | rfl | (simp [errW_none, errW_some] <;> rfl) | (simp [*, errW_none, errW_some] <;> rfl), by (with_reducible repeat (first | apply Kd.S_alloc | apply Kd.S_drewN | apply Kd.S_drew)); exact HO_5.out, by repeat (first | (with_reducible first | exact HB.out | apply below_alloc | apply pw_below_drewN | apply below_drew1) | exact HB.out)⟩

def rampartref03_number.l0 : Nat → List Int → Int → Int → Option (Int)
  | 0, _, _, _ => none
  | k + 1, x0, x3, x4 => if x4 ≥ 0 then (if 0 ≤ x4 then (if x4 < (x0.length : Int) then (rampartref03_number.l0 k x0 (IntKind.u64.wrap ((IntKind.u64.wrap (x3 * 256)) + (IntKind.u64.wrap (rd x0 x4)))) (wrap64 (x4 - 1))) else (none)) else (none)) else (some x3)
def rampartref03_number.f (k : Nat) (l0 : List Int) : Option (Int) := rampartref03_number.l0 k l0 0 (wrap64 ((l0.length : Int) - 1))
set_option maxHeartbeats 8000000 in
set_option maxRecDepth 100000 in
theorem rampartref03_number.calls (k : Nat) (A0 : Option Addr) (c0 : Nat) (l0 : List Int) (r : Int) (w : World) (hr0 : Kd.C (Kd.int .u8) w A0 l0.length l0) (hc0 : l0.length ≤ c0) (h : rampartref03_number.f k l0 = some r) :
    Calls Tryd.prog 62 #[.slice A0 l0.length c0] w fun e w' => e = .returned (.int .u64 r) ∧ Drawn0 w w' := by
  have HR0 := Aside0.mk hr0
  have HC0 := Aside0.mk hc0
  clear hr0 hc0
  have H : (rampartref03_number.l0 k l0 0 (wrap64 ((l0.length : Int) - 1))) = some r := h
  clear h
  have H' := Aside0.mk H
  clear H
  go_enter Tryd.func62, Tryd.ntmps62
  go_wp2
  go_loopg [3, 4] k (fun kq v3 v4 w' => ∃ (x3_1 : Int) (x4_1 : Int), v3 = .int .u64 x3_1 ∧ v4 = .int .i64 x4_1 ∧ Aside0 (rampartref03_number.l0 kq l0 x3_1 x4_1 = some r) ∧ Aside0 (kq ≤ k) ∧ Drawn0 w w')
  case atStart => exact ⟨(0), (wrap64 ((l0.length : Int) - 1)), (by first | rfl | (simp; done) | (simp [*]; done)), (by first | rfl | (simp; done) | (simp [*]; done)), H', ⟨Nat.le_refl _⟩, by repeat (first | exact Drawn0.refl _ | apply Drawn0.step)⟩
  case round =>
    clear H'
    obtain ⟨x3_1, x4_1, rfl, rfl, HA, HK1, ⟨m1, rfl⟩⟩ := hrel
    cases gk with
    | zero => exact absurd HA.out (by simp [rampartref03_number.l0])
    | succ k1 =>
      have H := HA.out
      clear HA
      simp only [rampartref03_number.l0] at H
      by_cases c2 : x4_1 ≥ 0
      · rw [if_pos c2] at H
        have c2b0 : decide (0 ≤ x4_1) = true := decide_eq_true c2
        clear c2
        by_cases c3 : 0 ≤ x4_1
        · rw [if_pos c3] at H
          have c3b0 : decide (0 ≤ x4_1) = true := decide_eq_true c3
          clear c3
          by_cases c4 : x4_1 < (l0.length : Int)
          · rw [if_pos c4] at H
            have c4b0 : decide (x4_1 < (l0.length : Int)) = true := decide_eq_true c4
            clear c4
            have H' := Aside0.mk H
            clear H
            have p126 : 0 ≤ (x4_1 : Int) := of_decide_eq_true (by first | (with_reducible assumption) | assumption)
            have q126 : x4_1 < (l0.length : Int) := of_decide_eq_true (by first | (with_reducible assumption) | assumption)
            obtain ⟨ad126, e126, hx126_0⟩ := Kd.at_int HR0.out x4_1 p126 q126
            cases e126
            replace p126 := eq_true p126
            replace q126 := eq_true q126
            go_wp2
            go_roundg k1
            case measure => have := HK1.out; omega
            case rel => exact ⟨(IntKind.u64.wrap ((IntKind.u64.wrap (x3_1 * 256)) + (IntKind.u64.wrap (rd l0 x4_1)))), (wrap64 (x4_1 - 1)), (by first | rfl | (simp; done) | (simp [*]; done)), (by first | rfl | (simp; done) | (simp [*]; done)), H', ⟨by have := HK1.out; omega⟩, by repeat (first | exact Drawn0.refl _ | apply Drawn0.step)⟩
          · rw [if_neg c4] at H
            exact absurd H (by simp)
        · rw [if_neg c3] at H
          exact absurd H (by simp)
      · rw [if_neg c2] at H
        have c2b0 : decide (0 ≤ x4_1) = false := decide_eq_false c2
        clear c2
        obtain rfl := Option.some.inj H
        go_wp2
        go_ret
        exact ⟨by first | rfl | (simp; done) | (simp [*]; done), by repeat (first | exact Drawn0.refl _ | apply Drawn0.step)⟩

end Go.Proofs.YtoliipbmcekciaaDoor.QDc

namespace Go.Proofs.YtoliipbmcekciaaDoor.QDc
open Go.RowKit Go.Proofs.YtoliipbmcekciaaDoorW.PrintWords Go.Proofs.YtoliipbmcekciaaDoorW.PrintLast Go.Proofs.YtoliipbmcekciaaDoorW.PrintMore
set_option linter.unusedVariables false
set_option linter.unusedSimpArgs false

theorem drawn_below {w w' : World} (h : Drawn0 w w') : Below w.heap.size w w' := by
  obtain ⟨m, rfl⟩ := h
  exact pw_below_drewN (Below.refl _ _) m
set_option maxRecDepth 100000 in
set_option maxHeartbeats 1000000 in
theorem RParse_long (A : Option Addr) (c n : Nat) (w : World) (h16 : n ≠ 16) : Calls Tryd.prog 34 #[.slice A n c] w fun e w' => e = .returned (.tuple #[.agg (cReq 0 0 0 0 0), .int .i64 30]) ∧ Below w.heap.size w w' := by
  have hd : ((n : Int) != 16) = true := bne_iff_ne.mpr (by omega)
  have hd2 : ((n : Int) == 16) = false := beq_false_of_ne (by omega)
  clear h16
  go_enter Tryd.func34, Tryd.ntmps34
  go_wp2
  go_returns
  refine ⟨?_, ?_⟩
  · rfl
  · repeat (first | exact Below.refl _ _ | apply below_alloc | apply pw_below_drewN | apply below_drew1)

end Go.Proofs.YtoliipbmcekciaaDoor.QDc

namespace Go.Proofs.YtoliipbmcekciaaDoor.QDc
open Go.RowKit Go.Shelf Go.Proofs.YtoliipbmcekciaaDoorW.PrintWords Go.Proofs.YtoliipbmcekciaaDoorW.PrintLast Go.Proofs.YtoliipbmcekciaaDoorW.PrintMore
set_option linter.unusedVariables false
set_option linter.unusedSimpArgs false
theorem list16 {l : List Int} (h : l.length = 16) : ∃ a0 a1 a2 a3 a4 a5 a6 a7 a8 a9 a10 a11 a12 a13 a14 a15, l = [a0, a1, a2, a3, a4, a5, a6, a7, a8, a9, a10, a11, a12, a13, a14, a15] := by
  match l, h with
  | [a0, a1, a2, a3, a4, a5, a6, a7, a8, a9, a10, a11, a12, a13, a14, a15], _ => exact ⟨_, _, _, _, _, _, _, _, _, _, _, _, _, _, _, _, rfl⟩
def Byte (a : Int) : Prop := 0 ≤ a ∧ a < 256
theorem or_step (x b j P : Int) (i p : Nat) (hj : j = (i : Int)) (hP : P = (p : Int)) (hp : p = 2 ^ (8 * i)) (hx0 : 0 ≤ x) (hx : x < P) (hb : Byte b) (hi : i < 8) : bits .or .u64 x (shl .u64 (IntKind.u64.wrap b) (IntKind.u64.wrap (8 * IntKind.u64.wrap j))) = x + b * P := by
  subst hj hP
  obtain ⟨h0, h1⟩ := hb
  obtain ⟨n, rfl⟩ := Int.eq_ofNat_of_zero_le hx0
  obtain ⟨m, rfl⟩ := Int.eq_ofNat_of_zero_le h0
  have e1 : IntKind.u64.wrap (8 * IntKind.u64.wrap (i : Int)) = ((8 * i : Nat) : Int) := by rw [IntKind.wrap_u64, IntKind.wrap_u64]; omega
  have e2 : IntKind.u64.wrap (m : Int) = (m : Int) := by rw [IntKind.wrap_u64]; omega
  have hpow : p ≤ 2 ^ 56 := by rw [hp]; exact Nat.pow_le_pow_right (by decide) (by omega)
  have hpos : 0 < p := by rw [hp]; exact Nat.pow_pos (by decide)
  have hm : m * p < 18446744073709551616 := by
    have : m * p ≤ 255 * 2 ^ 56 := Nat.mul_le_mul (by omega) hpow
    omega
  have e3 : shl .u64 (m : Int) ((8 * i : Nat) : Int) = ((m * p : Nat) : Int) := by
    unfold shl
    rw [IntKind.wrap_u64, Int.toNat_natCast, show min (8 * i) IntKind.u64.bits = 8 * i by show min (8 * i) 64 = _; omega, show (2 : Int) ^ (8 * i) = ((2 ^ (8 * i) : Nat) : Int) by push_cast; rfl, ← hp, ← Int.natCast_mul]
    omega
  rw [e1, e2, e3, bits_or_u64_nat n (m * p) (by omega) hm]
  have e4 : n ||| m * p = n + m * p := by
    have := Nat.two_pow_add_eq_or_of_lt (b := n) (i := 8 * i) (by rw [← hp]; omega) m
    rw [← hp, Nat.mul_comm p m] at this
    rw [Nat.or_comm, ← this]; omega
  rw [e4]
  push_cast
  rfl
theorem num_step (x b : Int) (hx0 : 0 ≤ x) (hx : x < 72057594037927936) (hb : Byte b) : IntKind.u64.wrap (IntKind.u64.wrap (x * 256) + IntKind.u64.wrap b) = x * 256 + b := by
  obtain ⟨h0, h1⟩ := hb
  rw [IntKind.wrap_u64, IntKind.wrap_u64, IntKind.wrap_u64]
  omega
theorem num_first (b : Int) (hb : Byte b) : IntKind.u64.wrap (IntKind.u64.wrap 0 + IntKind.u64.wrap b) = b := by
  obtain ⟨h0, h1⟩ := hb
  rw [IntKind.wrap_u64, IntKind.wrap_u64, IntKind.wrap_u64]
  omega
theorem num_get (l : List Int) (h : l.length = 16) (hb : ∀ x ∈ l, Byte x) : rampartref03_number.f 9 ((l.take 8).drop 4) = some (get4 l) ∧ rampartref03_number.f 9 (l.drop 8) = some (get8 l) := by
  obtain ⟨a0, a1, a2, a3, a4, a5, a6, a7, a8, a9, a10, a11, a12, a13, a14, a15, rfl⟩ := list16 h
  simp only [List.mem_cons, List.not_mem_nil, or_false, forall_eq_or_imp, forall_eq] at hb
  obtain ⟨b0, b1, b2, b3, b4, b5, b6, b7, b8, b9, b10, b11, b12, b13, b14, b15⟩ := hb
  have n0 : (0 : Int) ≤ IntKind.u64.wrap (8 * IntKind.u64.wrap 0) := by decide
  have n1 : (0 : Int) ≤ IntKind.u64.wrap (8 * IntKind.u64.wrap 1) := by decide
  have n2 : (0 : Int) ≤ IntKind.u64.wrap (8 * IntKind.u64.wrap 2) := by decide
  have n3 : (0 : Int) ≤ IntKind.u64.wrap (8 * IntKind.u64.wrap 3) := by decide
  have n4 : (0 : Int) ≤ IntKind.u64.wrap (8 * IntKind.u64.wrap 4) := by decide
  have n5 : (0 : Int) ≤ IntKind.u64.wrap (8 * IntKind.u64.wrap 5) := by decide
  have n6 : (0 : Int) ≤ IntKind.u64.wrap (8 * IntKind.u64.wrap 6) := by decide
  have n7 : (0 : Int) ≤ IntKind.u64.wrap (8 * IntKind.u64.wrap 7) := by decide
  have q4 := b4
  have q5 := b5
  have q6 := b6
  have q7 := b7
  have q8 := b8
  have q9 := b9
  have q10 := b10
  have q11 := b11
  have q12 := b12
  have q13 := b13
  have q14 := b14
  have q15 := b15
  unfold Byte at q4 q5 q6 q7 q8 q9 q10 q11 q12 q13 q14 q15
  refine ⟨?_, ?_⟩
  · unfold get4
    simp [wire_part_get.f, wire_part_get.l0, wrap64, rd, rampartref03_number.f, rampartref03_number.l0, n0, n1, n2, n3]
    rw [or_step (0) a4 0 1 0 1 rfl rfl rfl (by omega) (by omega) b4 (by omega)]
    rw [or_step (0 + a4 * 1) a5 1 256 1 256 rfl rfl rfl (by omega) (by omega) b5 (by omega)]
    rw [or_step (0 + a4 * 1 + a5 * 256) a6 2 65536 2 65536 rfl rfl rfl (by omega) (by omega) b6 (by omega)]
    rw [or_step (0 + a4 * 1 + a5 * 256 + a6 * 65536) a7 3 16777216 3 16777216 rfl rfl rfl (by omega) (by omega) b7 (by omega)]
    rw [num_first a7 b7]
    rw [num_step (a7) a6 (by omega) (by omega) b6]
    rw [num_step ((a7) * 256 + a6) a5 (by omega) (by omega) b5]
    rw [num_step (((a7) * 256 + a6) * 256 + a5) a4 (by omega) (by omega) b4]
    omega
  · unfold get8
    simp [wire_part_get.f, wire_part_get.l0, wrap64, rd, rampartref03_number.f, rampartref03_number.l0, n0, n1, n2, n3, n4, n5, n6, n7]
    rw [or_step (0) a8 0 1 0 1 rfl rfl rfl (by omega) (by omega) b8 (by omega)]
    rw [or_step (0 + a8 * 1) a9 1 256 1 256 rfl rfl rfl (by omega) (by omega) b9 (by omega)]
    rw [or_step (0 + a8 * 1 + a9 * 256) a10 2 65536 2 65536 rfl rfl rfl (by omega) (by omega) b10 (by omega)]
    rw [or_step (0 + a8 * 1 + a9 * 256 + a10 * 65536) a11 3 16777216 3 16777216 rfl rfl rfl (by omega) (by omega) b11 (by omega)]
    rw [or_step (0 + a8 * 1 + a9 * 256 + a10 * 65536 + a11 * 16777216) a12 4 4294967296 4 4294967296 rfl rfl rfl (by omega) (by omega) b12 (by omega)]
    rw [or_step (0 + a8 * 1 + a9 * 256 + a10 * 65536 + a11 * 16777216 + a12 * 4294967296) a13 5 1099511627776 5 1099511627776 rfl rfl rfl (by omega) (by omega) b13 (by omega)]
    rw [or_step (0 + a8 * 1 + a9 * 256 + a10 * 65536 + a11 * 16777216 + a12 * 4294967296 + a13 * 1099511627776) a14 6 281474976710656 6 281474976710656 rfl rfl rfl (by omega) (by omega) b14 (by omega)]
    rw [or_step (0 + a8 * 1 + a9 * 256 + a10 * 65536 + a11 * 16777216 + a12 * 4294967296 + a13 * 1099511627776 + a14 * 281474976710656) a15 7 72057594037927936 7 72057594037927936 rfl rfl rfl (by omega) (by omega) b15 (by omega)]
    rw [num_first a15 b15]
    rw [num_step (a15) a14 (by omega) (by omega) b14]
    rw [num_step ((a15) * 256 + a14) a13 (by omega) (by omega) b13]
    rw [num_step (((a15) * 256 + a14) * 256 + a13) a12 (by omega) (by omega) b12]
    rw [num_step ((((a15) * 256 + a14) * 256 + a13) * 256 + a12) a11 (by omega) (by omega) b11]
    rw [num_step (((((a15) * 256 + a14) * 256 + a13) * 256 + a12) * 256 + a11) a10 (by omega) (by omega) b10]
    rw [num_step ((((((a15) * 256 + a14) * 256 + a13) * 256 + a12) * 256 + a11) * 256 + a10) a9 (by omega) (by omega) b9]
    rw [num_step (((((((a15) * 256 + a14) * 256 + a13) * 256 + a12) * 256 + a11) * 256 + a10) * 256 + a9) a8 (by omega) (by omega) b8]
    omega
def errOf (l : List Int) : Int := if (parse1 l).f1 = true then 0 else 30
theorem errOf_eq (l : List Int) : (errOf l == 0) = (parse1 l).f1 := by
  unfold errOf
  cases (parse1 l).f1 <;> rfl
theorem RSplit_l0 (l : List Int) (most : Int) (hn : l.length ≤ 1000) : ∀ (k m : Nat), (l.length + 15) / 16 - m < k → m ≤ min ((l.length + 15) / 16) most.toNat → rampartref03_Split.l0 k (l.drop (16 * m)) most ((List.range m).map (chunk l)) = some (pcs l most)
  | 0, m, h, _ => absurd h (by omega)
  | k + 1, m, h, hm => by
    unfold rampartref03_Split.l0
    simp only [List.length_map, List.length_range, List.length_drop]
    by_cases h1 : 16 * m < l.length
    · by_cases h2 : (m : Int) < most
      · have e1 : (mn ((l.length - 16 * m : Nat) : Int) 16).toNat = min (l.length - 16 * m) 16 := by unfold mn; split <;> omega
        have e2 : 0 ≤ mn ((l.length - 16 * m : Nat) : Int) 16 := by unfold mn; split <;> omega
        have e3 : mn ((l.length - 16 * m : Nat) : Int) 16 ≤ ((l.length - 16 * m : Nat) : Int) := by unfold mn; split <;> omega
        have e4 : (l.drop (16 * m)).take (min (l.length - 16 * m) 16) = chunk l m := by
          unfold chunk
          rw [← List.length_drop, Nat.min_comm, ← List.take_take, List.take_length]
        have e5 : (l.drop (16 * m)).drop (min (l.length - 16 * m) 16) = l.drop (16 * (m + 1)) := by
          rw [List.drop_drop]
          by_cases h3 : l.length - 16 * m ≤ 16
          · rw [List.drop_eq_nil_of_le (by omega), List.drop_eq_nil_of_le (by omega)]
          · rw [show 16 * m + min (l.length - 16 * m) 16 = 16 * (m + 1) by omega]
        have e6 : (chunk l m).length ≤ 16 := by unfold chunk; rw [List.length_take]; omega
        rw [if_pos (by omega), if_pos h2]
        simp only [Option.bind_some, if_pos e2, if_pos e3, e1, e4, e5, List.nil_append, List.length_nil]
        rw [if_pos (by omega), if_pos (by omega)]
        have := RSplit_l0 l most hn k (m + 1) (by omega) (by omega)
        rw [List.range_succ, List.map_append] at this
        exact this
      · rw [if_pos (by omega), if_neg h2]
        have : m = min ((l.length + 15) / 16) most.toNat := by omega
        rw [this]
        rfl
    · rw [if_neg (by omega)]
      have : m = min ((l.length + 15) / 16) most.toNat := by omega
      rw [this]
      rfl
theorem RSplit_at (k : Nat) (hk : 70 ≤ k) (l : List Int) (most : Int) (hn : l.length ≤ 1000) : rampartref03_Split.f k l most = some (pcs l most) := by
  unfold rampartref03_Split.f
  exact RSplit_l0 l most hn k 0 (by omega) (by omega)
theorem chunk_byte {l : List Int} (hb : ∀ x ∈ l, Byte x) (i : Nat) : ∀ x ∈ chunk l i, Byte x := fun x hx => hb x (List.mem_of_mem_drop (List.mem_of_mem_take hx))
theorem pcs_byte {l : List Int} (hb : ∀ x ∈ l, Byte x) (most : Int) : ∀ p ∈ pcs l most, ∀ x ∈ p, Byte x := by
  intro p hp
  unfold pcs at hp
  obtain ⟨i, _, rfl⟩ := List.mem_map.1 hp
  exact chunk_byte hb i
set_option maxRecDepth 100000 in
set_option maxHeartbeats 4000000 in
theorem Is_calls (k a r h p : Int) (w : World) : Calls Tryd.prog 63 #[.agg (cReq k a r h p)] w fun e w' => e = .returned (.bool (okReq k a r h p)) ∧ Below w.heap.size w w' := by
  have HB := Aside0.mk ((Below.refl w.heap.size w).alloc (Nat.le_refl _) (.cells (cReq k a r h p) 55))
  have E0 := World.alloc_heap_new w (.cells (cReq k a r h p) 55)
  obtain ⟨q, hq⟩ : ∃ q, okReq k a r h p = q := ⟨_, rfl⟩
  have HQ := Aside0.mk hq
  rw [hq]
  clear hq
  go_enter Tryd.func63, Tryd.ntmps63
  go_upto_region 1 with fail
  change Code.wp Tryd.prog _ _ _ (w.alloc (.cells (cReq k a r h p) 55))
  generalize w.alloc (.cells (cReq k a r h p) 55) = w2 at HB E0 ⊢
  obtain ⟨x0, x1, x2, x3, x4⟩ := req_cells E0
  clear E0
  go_wp2_with fail
  all_goals (go_ret; refine ⟨congrArg (fun b => Ending.returned (Value.bool b)) ?_, HB.out⟩; rw [← HQ.out]; clear HQ HB x0 x1 x2 x3 x4; simp only [beq_iff_eq, beq_eq_false_iff_ne, ne_eq] at *; rw [Bool.eq_iff_iff]; unfold okReq; (repeat' split) <;> (simp only [beq_iff_eq, decide_eq_true_eq, Bool.false_eq_true, false_iff, iff_true, iff_false] <;> omega))
end Go.Proofs.YtoliipbmcekciaaDoor.QDc

