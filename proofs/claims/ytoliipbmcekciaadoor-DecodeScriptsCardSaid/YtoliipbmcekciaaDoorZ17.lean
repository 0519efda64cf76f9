/- Texts of this claim, joined: ytDc, rNDc, V0Dc, XSDe, ALDc. -/
import Derived.Test.YtoliipbmcekciaaDoorZ01
import Derived.Test.YtoliipbmcekciaaDoorZ02
import Derived.Test.YtoliipbmcekciaaDoorZ14
import Derived.Test.YtoliipbmcekciaaDoorZ15
namespace Go.Proofs.YtoliipbmcekciaaDoor.QDc
open Go.RowKit Go.Proofs.YtoliipbmcekciaaDoorW.PrintWords Go.Proofs.YtoliipbmcekciaaDoorW.PrintLast Go.Proofs.YtoliipbmcekciaaDoorW.PrintMore
attribute [local go_sem] max2_int min2_int max_two min_two max_three min_three max_four min_four   -- for this text's walks alone
set_option linter.unusedVariables false
set_option linter.unusedSimpArgs false

def rampartref03_low.l0 : Nat → Int → Int → List Int → Int → Option (List Int)
  | 0, _, _, _, _ => none
  | k + 1, x0, x1, x5, x6 => if x6 < x1 then (if x5.length < 140737488355328 then (rampartref03_low.l0 k (IntKind.u64.wrap (Int.tdiv x0 256)) x1 (x5 ++ [(Int.tmod x0 256) % 256]) (wrap64 (x6 + 1))) else (none)) else (some x5)
def rampartref03_low.f (k : Nat) (a0 : Int) (a1 : Int) : Option (List Int) := rampartref03_low.l0 k a0 a1 ([] : List Int) 0
set_option maxHeartbeats 8000000 in
set_option maxRecDepth 100000 in
theorem rampartref03_low.calls (k : Nat) (a0 : Int) (a1 : Int) (r : List Int) (w : World) (h : rampartref03_low.f k a0 a1 = some r) :
    Calls Tryd.prog 89 #[.int .u64 a0, .int .i64 a1] w fun e w' => ∃ v0_ : Value, e = .returned (v0_) ∧ Kd.R (Kd.int .u8) 5 w' w.heap.size (fun _ => True) v0_ r ∧ Below w.heap.size w w' := by
  have HB := Aside0.mk (Below.refl w.heap.size w)
  have H : (rampartref03_low.l0 k a0 a1 ([] : List Int) 0) = some r := h
  clear h
  have H' := Aside0.mk H
  clear H
  go_enter Tryd.func89, Tryd.ntmps89
  go_wp2
  go_loopg [0, 5, 6] k (fun kq v0 v5 v6 w' => ∃ (x0_1 : Int) (x5_1 : List Int) (x6_1 : Int), v0 = .int .u64 x0_1 ∧ v6 = .int .i64 x6_1 ∧ Aside0 (rampartref03_low.l0 kq x0_1 a1 x5_1 x6_1 = some r) ∧ Aside0 (kq ≤ k) ∧ Aside0 (Kd.R (Kd.int .u8) 5 w' w.heap.size (fun _ => True) v5 x5_1) ∧ Aside0 (Below w.heap.size w w'))
  case atStart => exact ⟨(a0), (([] : List Int)), (0), (by first | rfl | (simp; done) | (simp [*]; done)), (by first | rfl | (simp; done) | (simp [*]; done)), H', ⟨Nat.le_refl _⟩, ⟨by first | exact Kd.R_nil _ _ _ _ _ | exact Kd.N_nil _ _ _ _ _ | exact Kd.V_nil _ _ _ _ _ | exact Kd.Q_nil _ _ _ _ _ | exact Kd.S_nil _ _ _ _ _⟩, ⟨by repeat (first | (with_reducible first | exact HB.out | apply below_alloc | apply pw_below_drewN | apply below_drew1) | exact HB.out)⟩⟩
  case round =>
    clear H'
    try clear p2
    obtain ⟨x0_1, x5_1, x6_1, rfl, rfl, HA, HK1, HO_5, HB⟩ := hrel
    cases gk with
    | zero => exact absurd HA.out (by simp [rampartref03_low.l0])
    | succ k1 =>
      have H := HA.out
      clear HA
      simp only [rampartref03_low.l0] at H
      by_cases c3 : x6_1 < a1
      · rw [if_pos c3] at H
        have c3b0 : decide (x6_1 < a1) = true := decide_eq_true c3
        clear c3
        by_cases c4 : x5_1.length < 140737488355328
        · rw [if_pos c4] at H
          have LMc4 := Aside0.mk c4
          clear c4
          obtain ⟨y156, hy156⟩ : ∃ y_ : List Int, y_ = (x5_1 ++ [(Int.tmod x0_1 256) % 256]) := ⟨_, rfl⟩
          replace H : (rampartref03_low.l0 k1 (IntKind.u64.wrap (Int.tdiv x0_1 256)) a1 y156 (wrap64 (x6_1 + 1))) = some r := by first | (rw [hy156]; with_reducible exact H) | (have H2_ := (Option.bind_some _ _).symm.trans H; rw [hy156]; with_reducible exact H2_) | (have H2_ := (Option.bind_some _ _).symm.trans H; with_reducible exact H2_) | with_reducible exact H | (rw [hy156]; exact H) | exact H
          have Ny156 := Aside0.mk hy156
          clear hy156
          have H' := Aside0.mk H
          clear H
          go_wp2_with (first | ((with_reducible refine gate_builtin (b := .append) (xs := #[.tmp 12, .tmp 16]) rfl ?_); at_builtin; refine Kd.R_append (Kd.int .u8) (w0 := w) w.heap.size rfl (.tmp 12) (.tmp 16) 38 5 (.int .u8 0) 1 rfl Tryd.underlying38 info5 rfl (by decide) (by omega) u5 x5_1 ((Int.tmod x0_1 256) % 256) [.int .u8 ((Int.tmod x0_1 256) % 256)] (fun _ => True) (fun _ => False) rfl rfl ?aP (fun _ hk => hk.elim) ?aF ?aO ?aB ?aS ?aL ?_; (case aP => exact rfl); (case aB => exact (by repeat (first | (with_reducible first | exact HB.out | apply below_alloc | apply pw_below_drewN | apply below_drew1) | exact HB.out))); (case aF => exact (fun _ _ => trivial)); (case aO => exact (by (with_reducible repeat (first | apply Kd.R_alloc | apply Kd.R_drewN | apply Kd.R_drew)); exact HO_5.out)); (case aS => exact (below_size (by repeat (first | (with_reducible first | exact HB.out | apply below_alloc | apply pw_below_drewN | apply below_drew1) | exact HB.out)))); (case aL => have := LMc4.out; omega); intro v157 w5 ho hb hg hat; rw [← Ny156.out] at ho; have n0_ := Aside0.mk (hb); have n1_ := Aside0.mk (ho); clear HB; clear HO_5; have HB := n0_; have HO158 := n1_; clear n0_ n1_; clear ho hb hg hat))
          go_roundg k1
          case measure => have := HK1.out; omega
          case rel => exact ⟨(IntKind.u64.wrap (Int.tdiv x0_1 256)), (y156), (wrap64 (x6_1 + 1)), (by first | rfl | (simp; done) | (simp [*]; done)), (by first | rfl | (simp; done) | (simp [*]; done)), H', ⟨by have := HK1.out; omega⟩, ⟨by (with_reducible repeat (first | apply Kd.R_alloc | apply Kd.R_drewN | apply Kd.R_drew)); exact HO158.out⟩, ⟨by repeat (first | (with_reducible first | exact HB.out | apply below_alloc | apply pw_below_drewN | apply below_drew1) | exact HB.out)⟩⟩
        · rw [if_neg c4] at H
          exact absurd H (by simp)
      · rw [if_neg c3] at H
        have c3b0 : decide (x6_1 < a1) = false := decide_eq_false c3
        clear c3
        obtain rfl := Option.some.inj H
        go_wp2
        go_ret
        exact ⟨_, by first | rfl | (simp [errW_none, errW_some] <;> rfl) | (simp [*, errW_none, errW_some] <;> rfl), by (with_reducible repeat (first | apply Kd.R_alloc | apply Kd.R_drewN | apply Kd.R_drew)); exact HO_5.out, by repeat (first | (with_reducible first | exact HB.out | apply below_alloc | apply pw_below_drewN | apply below_drew1) | exact HB.out)⟩

def rampartref03_shape.f (k : Nat) (a0 : Int) (a1 : Int) (a2 : Int) (a3 : Int) (a4 : Int) : Option (List Int) := (some (([a0, a1, a2, 0] : List Int) : List Int)).bind fun y159 => ((rampartref03_low.f k (IntKind.u64.wrap (a3)) 4).bind fun t162 => (if y159.length + t162.length < 140737488355328 then ((some (y159 ++ t162 : List Int)).bind fun y165 => ((rampartref03_low.f k a4 8).bind fun t168 => (if y165.length + t168.length < 140737488355328 then (some (y165 ++ t168)) else (none)))) else (none)))
set_option maxHeartbeats 8000000 in
set_option maxRecDepth 100000 in
theorem rampartref03_shape.calls (k : Nat) (a0 : Int) (a1 : Int) (a2 : Int) (a3 : Int) (a4 : Int) (r : List Int) (w : World) (h : rampartref03_shape.f k a0 a1 a2 a3 a4 = some r) :
    Calls Tryd.prog 64 #[.int .u8 a0, .int .u8 a1, .int .u8 a2, .int .u32 a3, .int .u64 a4] w fun e w' => ∃ v0_ : Value, e = .returned (v0_) ∧ Kd.R (Kd.int .u8) 5 w' w.heap.size (fun _ => True) v0_ r ∧ Below w.heap.size w w' := by
  have HB := Aside0.mk (Below.refl w.heap.size w)
  have H : ((some (([a0, a1, a2, 0] : List Int) : List Int)).bind fun y159 => ((rampartref03_low.f k (IntKind.u64.wrap (a3)) 4).bind fun t162 => (if y159.length + t162.length < 140737488355328 then ((some (y159 ++ t162 : List Int)).bind fun y165 => ((rampartref03_low.f k a4 8).bind fun t168 => (if y165.length + t168.length < 140737488355328 then (some (y165 ++ t168)) else (none)))) else (none)))) = some r := h
  clear h
  obtain ⟨y159, hy159⟩ : ∃ y_ : List Int, y_ = (([a0, a1, a2, 0] : List Int)) := ⟨_, rfl⟩
  replace H : ((rampartref03_low.f k (IntKind.u64.wrap (a3)) 4).bind fun t162 => (if y159.length + t162.length < 140737488355328 then ((some (y159 ++ t162 : List Int)).bind fun y165 => ((rampartref03_low.f k a4 8).bind fun t168 => (if y165.length + t168.length < 140737488355328 then (some (y165 ++ t168)) else (none)))) else (none))) = some r := by first | (rw [hy159]; with_reducible exact H) | (have H2_ := (Option.bind_some _ _).symm.trans H; rw [hy159]; with_reducible exact H2_) | (have H2_ := (Option.bind_some _ _).symm.trans H; with_reducible exact H2_) | with_reducible exact H | (rw [hy159]; exact H) | exact H
  have Ny159 := Aside0.mk hy159
  clear hy159
  replace H := Option.bind_eq_some_iff.mp H
  obtain ⟨t162, A60, H⟩ := H
  replace H : (if y159.length + t162.length < 140737488355328 then ((some (y159 ++ t162 : List Int)).bind fun y165 => ((rampartref03_low.f k a4 8).bind fun t168 => (if y165.length + t168.length < 140737488355328 then (some (y165 ++ t168)) else (none)))) else (none)) = some r := H
  have A6 := Aside0.mk A60
  clear A60
  by_cases c7 : y159.length + t162.length < 140737488355328
  · rw [if_pos c7] at H
    have LMc7 := Aside0.mk c7
    clear c7
    obtain ⟨y165, hy165⟩ : ∃ y_ : List Int, y_ = (y159 ++ t162) := ⟨_, rfl⟩
    replace H : ((rampartref03_low.f k a4 8).bind fun t168 => (if y165.length + t168.length < 140737488355328 then (some (y165 ++ t168)) else (none))) = some r := by first | (rw [hy165]; with_reducible exact H) | (have H2_ := (Option.bind_some _ _).symm.trans H; rw [hy165]; with_reducible exact H2_) | (have H2_ := (Option.bind_some _ _).symm.trans H; with_reducible exact H2_) | with_reducible exact H | (rw [hy165]; exact H) | exact H
    have Ny165 := Aside0.mk hy165
    clear hy165
    replace H := Option.bind_eq_some_iff.mp H
    obtain ⟨t168, A80, H⟩ := H
    replace H : (if y165.length + t168.length < 140737488355328 then (some (y165 ++ t168)) else (none)) = some r := H
    have A8 := Aside0.mk A80
    clear A80
    by_cases c9 : y165.length + t168.length < 140737488355328
    · rw [if_pos c9] at H
      have LMc9 := Aside0.mk c9
      clear c9
      obtain ⟨y171, hy171⟩ : ∃ y_ : List Int, y_ = (y165 ++ t168) := ⟨_, rfl⟩
      replace H : (some y171) = some r := by first | (rw [hy171]; with_reducible exact H) | (have H2_ := (Option.bind_some _ _).symm.trans H; rw [hy171]; with_reducible exact H2_) | (have H2_ := (Option.bind_some _ _).symm.trans H; with_reducible exact H2_) | with_reducible exact H | (rw [hy171]; exact H) | exact H
      have Ny171 := Aside0.mk hy171
      clear hy171
      obtain rfl := Option.some.inj H
      go_enter Tryd.func64, Tryd.ntmps64
      go_wp2_with (first | ((with_reducible refine gate_dst (N := 14) rfl ?_); refine Kd.R_lit (Kd.int .u8) _ 5 ?hg (N := 14) ?hd (xs := ([a0, a1, a2, 0] : List Int)) (inner := [.int .u8 a0, .int .u8 a1, .int .u8 a2, .int .u8 0]) (ok := fun _ => True) (okp := fun _ => True) ?hr ?hp (fun _ hk => hk) trivial (Below.refl _ _) (Nat.le_refl _) (by simp) ?_; (case hd => rfl); (case hg => rfl); (case hr => first | (go_simp; done) | (go_simp; rfl)); (case hp => exact (Reps.one (show Kd.M (Kd.int .u8) _ _ _ a0 [.int .u8 a0] from rfl) (Reps.one (show Kd.M (Kd.int .u8) _ _ _ a1 [.int .u8 a1] from rfl) (Reps.one (show Kd.M (Kd.int .u8) _ _ _ a2 [.int .u8 a2] from rfl) (Reps.one (show Kd.M (Kd.int .u8) _ _ _ 0 [.int .u8 0] from rfl) (Reps.none _ _)))))); intro v160 w10 ho11 hb hg_ hnew_; clear hg_ hnew_; (first | rw [← Ny159.out] at ho11 | (simp only [Int.reduceToNat] at ho11; rw [← Ny159.out] at ho11)); have n0_ := Aside0.mk (Kd.R_lower ho11 (below_size (by repeat (first | (with_reducible first | exact HB.out | apply below_alloc | apply pw_below_drewN | apply below_drew1) | exact HB.out)))); have n1_ := Aside0.mk (below_step (by repeat (first | (with_reducible first | exact HB.out | apply below_alloc | apply pw_below_drewN | apply below_drew1) | exact HB.out)) hb); clear HB; have HO161 := n0_; have HB := n1_; clear n0_ n1_; clear hb ho11) | ((with_reducible refine gate_callee (f := 89) rfl ?_); refine goesL_ (some 17) rfl rfl Tryd.func89 (by kernel_rfl) rfl #[.int .u64 (IntKind.u64.wrap (a3)), .int .i64 4] rfl (by (try simp only [List.map_toArray, List.map_cons, List.map_nil]); first | done | rfl | (simp only [List.length_drop, List.length_take]; rfl)) ?_; (with_reducible refine (rampartref03_low.calls k (IntKind.u64.wrap (a3)) 4 t162 _ A6.out).mono ?_); rintro e w12 ⟨v163, rfl, ho0, hb⟩; refine ⟨_, rfl, ?_⟩; have n0_ := Aside0.mk (Kd.R_elder' (by (with_reducible repeat (first | apply Kd.R_alloc | apply Kd.R_drewN | apply Kd.R_drew)); exact HO161.out) (Kd.R_base ho0) hb); have n1_ := Aside0.mk (Kd.R_lower (Kd.R_new' ho0 (Kd.R_lt (by (with_reducible repeat (first | apply Kd.R_alloc | apply Kd.R_drewN | apply Kd.R_drew)); exact HO161.out))) (below_size (by repeat (first | (with_reducible first | exact HB.out | apply below_alloc | apply pw_below_drewN | apply below_drew1) | exact HB.out)))); have n2_ := Aside0.mk (below_step (by repeat (first | (with_reducible first | exact HB.out | apply below_alloc | apply pw_below_drewN | apply below_drew1) | exact HB.out)) hb); clear HO161; clear HB; have HO161 := n0_; have HO164 := n1_; have HB := n2_; clear n0_ n1_ n2_; (try clear hb); (try clear hb2); (try clear hk); (try clear hi); (try clear ho0); obtain ⟨Ao14, co14, eo14⟩ := Kd.R_slice HO164.out; subst eo14) | ((with_reducible refine gate_builtin (b := .append) (xs := #[.tmp 14, .tmp 17]) rfl ?_); at_builtin; refine Kd.R_append_rows (Kd.int .u8) (w0 := w) w.heap.size rfl (.tmp 14) (.tmp 17) 38 5 (.int .u8 0) 1 rfl Tryd.underlying38 info5 rfl (by decide) (by omega) v160 y159 t162 _ _ _ (fun k_ => some k_ ≠ (.slice Ao14 t162.length co14 : Value).ownBlock) (fun _ => False) rfl rfl ?aO ?aR (fun _ _ h => h) (fun _ h => h.elim) ?aF ?aB ?aS ?aL ?_; (case aR => repeat (first | exact (Kd.R_reads' HO164.out).2.2 | (with_reducible refine Kd.C_alloc ?_ _) | (with_reducible refine Kd.C_drewN ?_ _) | (with_reducible refine Kd.C_drew ?_))); (case aB => exact (by repeat (first | (with_reducible first | exact HB.out | apply below_alloc | apply pw_below_drewN | apply below_drew1) | exact HB.out))); (case aF => exact (fun k_ hk => Kd.fresh' (Kd.R_lt (by (with_reducible repeat (first | apply Kd.R_alloc | apply Kd.R_drewN | apply Kd.R_drew)); exact HO164.out)) k_ hk)); (case aO => exact (by (with_reducible repeat (first | apply Kd.R_alloc | apply Kd.R_drewN | apply Kd.R_drew)); exact Kd.R_mono HO161.out (fun _ hk => hk.2))); (case aS => exact (below_size (by repeat (first | (with_reducible first | exact HB.out | apply below_alloc | apply pw_below_drewN | apply below_drew1) | exact HB.out)))); (case aL => have := LMc7.out; omega); intro v166 w13 ho hb hg hat; rw [← Ny165.out] at ho; have n0_ := Aside0.mk (Kd.R_after (ok := (fun _ => True)) (by (with_reducible repeat (first | apply Kd.R_alloc | apply Kd.R_drewN | apply Kd.R_drew)); exact HO164.out) hg hat); have n1_ := Aside0.mk (hb); have n2_ := Aside0.mk (ho); clear HO164; clear HB; clear HO161; have HO164 := n0_; have HB := n1_; have HO167 := n2_; clear n0_ n1_ n2_; clear ho hb hg hat) | ((with_reducible refine gate_callee (f := 89) rfl ?_); refine goesL_ (some 20) rfl rfl Tryd.func89 (by kernel_rfl) rfl #[.int .u64 a4, .int .i64 8] rfl (by (try simp only [List.map_toArray, List.map_cons, List.map_nil]); first | done | rfl | (simp only [List.length_drop, List.length_take]; rfl)) ?_; (with_reducible refine (rampartref03_low.calls k a4 8 t168 _ A8.out).mono ?_); rintro e w15 ⟨v169, rfl, ho0, hb⟩; refine ⟨_, rfl, ?_⟩; have n0_ := Aside0.mk (Kd.R_elder' (by (with_reducible repeat (first | apply Kd.R_alloc | apply Kd.R_drewN | apply Kd.R_drew)); exact HO164.out) (Kd.R_base ho0) hb); have n1_ := Aside0.mk (Kd.R_elder' (by (with_reducible repeat (first | apply Kd.R_alloc | apply Kd.R_drewN | apply Kd.R_drew)); exact HO167.out) (Kd.R_base ho0) hb); have n2_ := Aside0.mk (Kd.R_lower (Kd.R_new' (Kd.R_new' ho0 (Kd.R_lt (by (with_reducible repeat (first | apply Kd.R_alloc | apply Kd.R_drewN | apply Kd.R_drew)); exact HO164.out))) (Kd.R_lt (by (with_reducible repeat (first | apply Kd.R_alloc | apply Kd.R_drewN | apply Kd.R_drew)); exact HO167.out))) (below_size (by repeat (first | (with_reducible first | exact HB.out | apply below_alloc | apply pw_below_drewN | apply below_drew1) | exact HB.out)))); have n3_ := Aside0.mk (below_step (by repeat (first | (with_reducible first | exact HB.out | apply below_alloc | apply pw_below_drewN | apply below_drew1) | exact HB.out)) hb); clear HO164; clear HO167; clear HB; have HO164 := n0_; have HO167 := n1_; have HO170 := n2_; have HB := n3_; clear n0_ n1_ n2_ n3_; (try clear hb); (try clear hb2); (try clear hk); (try clear hi); (try clear ho0); obtain ⟨Ao17, co17, eo17⟩ := Kd.R_slice HO170.out; subst eo17) | ((with_reducible refine gate_builtin (b := .append) (xs := #[.tmp 18, .tmp 20]) rfl ?_); at_builtin; refine Kd.R_append_rows (Kd.int .u8) (w0 := w) w.heap.size rfl (.tmp 18) (.tmp 20) 38 5 (.int .u8 0) 1 rfl Tryd.underlying38 info5 rfl (by decide) (by omega) v166 y165 t168 _ _ _ (fun k_ => some k_ ≠ (.slice Ao14 t162.length co14 : Value).ownBlock ∧ some k_ ≠ (.slice Ao17 t168.length co17 : Value).ownBlock) (fun _ => False) rfl rfl ?aO ?aR (fun _ _ h => h) (fun _ h => h.elim) ?aF ?aB ?aS ?aL ?_; (case aR => repeat (first | exact (Kd.R_reads' HO170.out).2.2 | (with_reducible refine Kd.C_alloc ?_ _) | (with_reducible refine Kd.C_drewN ?_ _) | (with_reducible refine Kd.C_drew ?_))); (case aB => exact (by repeat (first | (with_reducible first | exact HB.out | apply below_alloc | apply pw_below_drewN | apply below_drew1) | exact HB.out))); (case aF => exact (fun k_ hk => ⟨Kd.fresh' (Kd.R_lt (by (with_reducible repeat (first | apply Kd.R_alloc | apply Kd.R_drewN | apply Kd.R_drew)); exact HO164.out)) k_ hk, Kd.fresh' (Kd.R_lt (by (with_reducible repeat (first | apply Kd.R_alloc | apply Kd.R_drewN | apply Kd.R_drew)); exact HO170.out)) k_ hk⟩)); (case aO => exact (by (with_reducible repeat (first | apply Kd.R_alloc | apply Kd.R_drewN | apply Kd.R_drew)); exact HO167.out)); (case aS => exact (below_size (by repeat (first | (with_reducible first | exact HB.out | apply below_alloc | apply pw_below_drewN | apply below_drew1) | exact HB.out)))); (case aL => have := LMc9.out; omega); intro v172 w16 ho hb hg hat; rw [← Ny171.out] at ho; have n0_ := Aside0.mk (Kd.R_after (ok := (fun k_ => some k_ ≠ (.slice Ao17 t168.length co17 : Value).ownBlock)) (by (with_reducible repeat (first | apply Kd.R_alloc | apply Kd.R_drewN | apply Kd.R_drew)); exact Kd.R_mono HO164.out (fun _ hk => ⟨hk.2, hk.1.2⟩)) hg hat); have n1_ := Aside0.mk (Kd.R_after (ok := (fun k_ => some k_ ≠ (.slice Ao14 t162.length co14 : Value).ownBlock)) (by (with_reducible repeat (first | apply Kd.R_alloc | apply Kd.R_drewN | apply Kd.R_drew)); exact Kd.R_mono HO170.out (fun _ hk => ⟨hk.1.2, hk.2⟩)) hg hat); have n2_ := Aside0.mk (hb); have n3_ := Aside0.mk (ho); clear HO164; clear HO170; clear HB; clear HO167; have HO164 := n0_; have HO170 := n1_; have HB := n2_; have HO173 := n3_; clear n0_ n1_ n2_ n3_; clear ho hb hg hat))
      go_ret
      exact ⟨_, by first | rfl | (simp [errW_none, errW_some] <;> rfl) | (simp [*, errW_none, errW_some] <;> rfl), by (with_reducible repeat (first | apply Kd.R_alloc | apply Kd.R_drewN | apply Kd.R_drew)); exact Kd.R_mono HO173.out (fun _ hk => trivial), by repeat (first | (with_reducible first | exact HB.out | apply below_alloc | apply pw_below_drewN | apply below_drew1) | exact HB.out)⟩
    · rw [if_neg c9] at H
      exact absurd H (by simp)
  · rw [if_neg c7] at H
    exact absurd H (by simp)

end Go.Proofs.YtoliipbmcekciaaDoor.QDc

namespace Go.Proofs.YtoliipbmcekciaaDoor.QDc
open Go.RowKit Go.Shelf Go.Proofs.YtoliipbmcekciaaDoorW.PrintWords Go.Proofs.YtoliipbmcekciaaDoorW.PrintLast Go.Proofs.YtoliipbmcekciaaDoorW.PrintMore
set_option linter.unusedVariables false
set_option linter.unusedSimpArgs false
def cutB (B : List (List Int)) : List (List Int) := (B.take 20).map (List.take 120)
def CInv (wR w : World) (A : Option Addr) (c : Nat) (B : List (List Int)) (p1 : Value) (m : Nat) (v : Value) (wr : World) : Prop :=
  Below w.heap.size w wr ∧ (∃ vs, wr.ownsRow w.heap.size 38 1 v m vs ∧ Reps ((Kd.slice 5 (Kd.int .u8)).K wR) 1 ((B.take m).map (List.take 120)) vs) ∧ m ≤ B.length ∧ m ≤ 20 ∧ wr.heap[w.heap.size]? = some (.cells #[.slice A B.length c, p1] 31 (0, 0)) ∧ wr.heap[w.heap.size + 1]? = some (.cells #[.slice none 0 0, .slice none 0 0] 31 (0, 0))
theorem Kd_C_take {w : World} {A : Option Addr} {l : List Int} (h : Kd.C (Kd.int .u8) w A l.length l) (n : Nat) (hn : n ≤ l.length) : Kd.C (Kd.int .u8) w A n (l.take n) := by
  obtain ⟨h1, h2, h3⟩ := h
  refine ⟨by rw [List.length_take]; omega, by omega, fun hp => ?_⟩
  obtain ⟨ad, ea, hc⟩ := h3 (by omega)
  refine ⟨ad, ea, fun j p hj => hc j p ?_⟩
  rw [List.getElem?_take] at hj
  split at hj
  · exact hj
  · cases hj
theorem cutB_len (B : List (List Int)) : (cutB B).length = min 20 B.length := by unfold cutB; rw [List.length_map, List.length_take]
theorem CInv_done {wR w wr : World} {A : Option Addr} {c : Nat} {B : List (List Int)} {p1 : Value} {m : Nat} {v : Value} (h : CInv wR w A c B p1 m v wr) (hm : m = min 20 B.length) :
    ∃ vs, (wr.setCells (w.heap.size + 1) 0 [v, p1]).ownsRow w.heap.size 38 1 v (cutB B).length vs ∧ Reps ((Kd.slice 5 (Kd.int .u8)).K wR) 1 (cutB B) vs ∧ Below w.heap.size w (wr.setCells (w.heap.size + 1) 0 [v, p1]) := by
  obtain ⟨hb, ⟨vs, ho, hrep⟩, h1, h2, hx, hy⟩ := h
  have hb2 := below_setCells (w0 := w) (B := w.heap.size) (g := w.heap.size + 1) (by omega) [v, p1] 0 wr hb
  have ho2 := own_setCells (own_ne ho hy (by decide)) [v, p1] 0 wr ho
  have e : (B.take m).map (List.take 120) = cutB B := by
    unfold cutB
    rw [hm]
    by_cases h20 : B.length ≤ 20
    · rw [Nat.min_eq_right h20, List.take_length, List.take_of_length_le h20]
    · rw [Nat.min_eq_left (by omega)]
  have el : (cutB B).length = m := by rw [cutB_len, hm]
  rw [el]
  rw [e] at hrep
  exact ⟨vs, ho2, hrep, hb2⟩
theorem CInv_step {wR w wr w2 : World} {A A3 : Option Addr} {c c3 : Nat} {B : List (List Int)} {p1 : Value} {m : Nat} {v1 y : Value} {vs : List Value} (h : CInv wR w A c B p1 m (.slice A3 m c3) wr)
    (ho : wr.ownsRow w.heap.size 38 1 (.slice A3 m c3) m vs) (hrep : Reps ((Kd.slice 5 (Kd.int .u8)).K wR) 1 ((B.take m).map (List.take 120)) vs)
    (hm : m < B.length) (hm2 : m < 20) (hy : (Kd.slice 5 (Kd.int .u8)).K wR ((B.getD m []).take 120) [y])
    (hown : w2.ownsRow w.heap.size 38 1 v1 (vs ++ [y]).length (vs ++ [y])) (hb2 : Below w.heap.size w w2) (hg : wr.grownBy w2 (Value.slice A3 m c3).ownBlock) : CInv wR w A c B p1 (m + 1) v1 w2 := by
  have hl : vs.length = m := by have := ho.1; omega
  have k1 := hg.block _ (Array.getElem?_eq_some_iff.1 h.2.2.2.2.1).1 (own_ne ho h.2.2.2.2.1 (by decide))
  have k2 := hg.block _ (Array.getElem?_eq_some_iff.1 h.2.2.2.2.2).1 (own_ne ho h.2.2.2.2.2 (by decide))
  refine ⟨hb2, ⟨vs ++ [y], ?_, ?_⟩, by omega, by omega, k1.trans h.2.2.2.2.1, k2.trans h.2.2.2.2.2⟩
  · rw [List.length_append, hl] at hown
    exact hown
  · rw [List.take_succ_eq_append_getElem hm, List.map_append]
    refine hrep.snoc ?_ rfl
    rw [List.getD_eq_getElem?_getD, List.getElem?_eq_getElem hm] at hy
    exact hy
set_option maxRecDepth 100000 in
set_option maxHeartbeats 2000000 in
theorem cut_calls (A : Option Addr) (c : Nat) (B : List (List Int)) (P1 : Option Addr) (n1 k1 : Nat) (wR w : World) (hb0 : Below wR.heap.size wR w) (hr : Kd.C (Kd.slice 5 (Kd.int .u8)) wR A B.length B) (hcap : B.length ≤ c) : Calls Tryd.prog 10 #[.agg #[.slice A B.length c, .slice P1 n1 k1]] w fun e w' => ∃ A' c' vs, e = .returned (.agg #[.slice A' (cutB B).length c', .slice P1 n1 k1]) ∧ w'.ownsRow w.heap.size 38 1 (.slice A' (cutB B).length c') (cutB B).length vs ∧ Reps ((Kd.slice 5 (Kd.int .u8)).K wR) 1 (cutB B) vs ∧ Below w.heap.size w w' := by
  have HB0 := Aside0.mk hb0
  have HR := Aside0.mk hr
  have HC := Aside0.mk hcap
  clear hr hcap hb0
  go_enter Tryd.func10, Tryd.ntmps10
  go_wp2
  have H0 : Aside0 (CInv wR w A c B (.slice P1 n1 k1) 0 (.slice none 0 0) ((w.alloc (Obj.cells #[Value.slice A B.length c, Value.slice P1 n1 k1] 31)).alloc (Obj.cells #[Value.slice none 0 0, Value.slice none 0 0] 31))) := ⟨⟨((Below.refl _ w).alloc (Nat.le_refl _) _).alloc (by simp) _, ⟨[], World.ownsRow_nil _ _ _ _, Reps.none _ _⟩, by omega, by omega, (Below.heap_alloc _ _ _ (by simp)).trans (World.alloc_heap_new w _), by have := World.alloc_heap_new (w.alloc (Obj.cells #[Value.slice A B.length c, Value.slice P1 n1 k1] 31)) (Obj.cells #[Value.slice none 0 0, Value.slice none 0 0] 31); rwa [World.size_alloc] at this⟩⟩
  go_loopw [3, 4, 5] (fun v i b wr => ∃ m : Nat, i = .int .i64 (m : Int) ∧ Aside0 (CInv wR w A c B (.slice P1 n1 k1) m v wr)) (fun _ i _ _ => B.length - (intOf i).toNat)
  case atStart => exact ⟨0, rfl, H0⟩
  case round =>
    clear H0
    obtain ⟨m, rfl, hS⟩ := hrel
    obtain ⟨vs, hvs⟩ := hS.out.2.1
    have HV := Aside0.mk hvs
    clear hvs
    obtain ⟨A3, c3, rfl, hc3, _⟩ := own_reads_of_le (d := Value.bool false) (enc := id) (n := m) (xs := vs) (by rw [show encs id vs = vs by simp [encs]]; exact HV.out.1)
    have x0 : wr.cell? ⟨w.heap.size, 0, none⟩ = some (.slice A B.length c) := by simp [World.cell?, hS.out.2.2.2.2.1]
    have x1 : wr.cell? ⟨w.heap.size, 1, none⟩ = some (.slice P1 n1 k1) := by simp [World.cell?, hS.out.2.2.2.2.1]
    have z0 : wr.cell? ⟨w.heap.size + 1, 0, none⟩ = some (.slice none 0 0) := by simp [World.cell?, hS.out.2.2.2.2.2]
    have z1 : wr.cell? ⟨w.heap.size + 1, 1, none⟩ = some (.slice none 0 0) := by simp [World.cell?, hS.out.2.2.2.2.2]
    have f0 : wr.frozen? ⟨w.heap.size + 1, 0, none⟩ = false := by simp [World.frozen?, hS.out.2.2.2.2.2]
    have f1 : wr.frozen? ⟨w.heap.size + 1, 1, none⟩ = false := by simp [World.frozen?, hS.out.2.2.2.2.2]
    by_cases h1 : (m : Int) < (B.length : Int)
    · by_cases h2 : (m : Int) < 20
      · have d1 : decide ((m : Int) < (B.length : Int)) = true := decide_eq_true h1
        have d2 : decide ((m : Int) < 20) = true := decide_eq_true h2
        have H1 := Aside0.mk h1
        have H2 := Aside0.mk h2
        obtain ⟨ad, Ae, ce, rfl, xe, hle, hCe⟩ := el_at HR.out (m : Int) (by omega) h1
        rw [Int.toNat_natCast] at xe hle hCe
        have xe' := pw_cell_below hS.out.1 (pw_cell_below HB0.out xe)
        have HE := Aside0.mk (And.intro hle hCe)
        generalize hl : B.getD m [] = l at xe xe' HE hle hCe
        have HL := Aside0.mk hl
        clear hl hCe xe
        by_cases h3 : (l.length : Int) > 120
        · have d3 : decide ((l.length : Int) > 120) = true := decide_eq_true h3
          go_upto_region 8 with fail
          clear x0 x1 z0 z1 f0 f1
          have hvl : vs.length = m := by have := HV.out.1.1; omega
          have hml : Aside0 ((vs.length + 1) * 24 ≤ 140737488355328) := ⟨by have := H2.out; omega⟩
          have HP : Aside0 (wr.ownsRow w.heap.size 38 1 (.slice A3 m c3) vs.length vs) := ⟨by rw [hvl]; exact HV.out.1⟩
          go_wp2_with (first | ((with_reducible refine gate_builtin (b := .append) rfl ?_); at_builtin; refine print_append (w0 := w) w.heap.size rfl (.tmp 27) (.tmp 29) 29 38 (.slice none 0 0) 24 rfl Tryd.underlying29 info38 rfl (by decide) (.slice A3 m c3) vs (.slice Ae 120 ce) rfl rfl rfl HP.out hS.out.1 hS.out.1.size hml.out ?_; intro v1 w2 hown hB2 hg2 hat; have HX := Aside0.mk (And.intro hB2 (And.intro hown hg2)); clear hown hB2 hg2 hat))
          have hw2 : wrap64 ((m : Int) + 1) = ((m + 1 : Nat) : Int) := by have := H2.out; unfold wrap64; omega
          have hh : B.length - ((m : Int) + 1).toNat < B.length - ((m : Int)).toNat := by have := H1.out; omega
          go_roundw
          case rel =>
            refine ⟨m + 1, by push_cast; rfl, ⟨CInv_step hS.out HV.out.1 HV.out.2 (by have := H1.out; omega) (by have := H2.out; omega) ?_ HX.out.2.1 HX.out.1 HX.out.2.2⟩⟩
            rw [HL.out]
            have e1 : (l.take 120).length = 120 := by rw [List.length_take]; have := d3; simp at this; omega
            refine ⟨Ae, ce, by rw [e1], by have := HE.out.1; rw [e1]; have := d3; simp at this; omega, ?_⟩
            rw [e1]
            exact Kd_C_take HE.out.2 120 (by have := d3; simp at this; omega)
          case measure =>
            exact hh
        · have d3 : decide ((l.length : Int) > 120) = false := decide_eq_false h3
          go_upto_region 8 with fail
          clear x0 x1 z0 z1 f0 f1
          have hvl : vs.length = m := by have := HV.out.1.1; omega
          have hml : Aside0 ((vs.length + 1) * 24 ≤ 140737488355328) := ⟨by have := H2.out; omega⟩
          have HP : Aside0 (wr.ownsRow w.heap.size 38 1 (.slice A3 m c3) vs.length vs) := ⟨by rw [hvl]; exact HV.out.1⟩
          go_wp2_with (first | ((with_reducible refine gate_builtin (b := .append) rfl ?_); at_builtin; refine print_append (w0 := w) w.heap.size rfl (.tmp 27) (.tmp 29) 29 38 (.slice none 0 0) 24 rfl Tryd.underlying29 info38 rfl (by decide) (.slice A3 m c3) vs (.slice Ae l.length ce) rfl rfl rfl HP.out hS.out.1 hS.out.1.size hml.out ?_; intro v1 w2 hown hB2 hg2 hat; have HX := Aside0.mk (And.intro hB2 (And.intro hown hg2)); clear hown hB2 hg2 hat))
          have hw2 : wrap64 ((m : Int) + 1) = ((m + 1 : Nat) : Int) := by have := H2.out; unfold wrap64; omega
          have hh : B.length - ((m : Int) + 1).toNat < B.length - ((m : Int)).toNat := by have := H1.out; omega
          go_roundw
          case rel =>
            refine ⟨m + 1, by push_cast; rfl, ⟨CInv_step hS.out HV.out.1 HV.out.2 (by have := H1.out; omega) (by have := H2.out; omega) ?_ HX.out.2.1 HX.out.1 HX.out.2.2⟩⟩
            rw [HL.out]
            have e1 : l.take 120 = l := List.take_of_length_le (by have := d3; simp at this; omega)
            rw [e1]
            exact ⟨Ae, ce, rfl, HE.out.1, HE.out.2⟩
          case measure =>
            exact hh
      · have d1 : decide ((m : Int) < (B.length : Int)) = true := decide_eq_true h1
        have d2 : decide ((m : Int) < 20) = false := decide_eq_false h2
        go_wp2
        have hblk := blk_setCells [Value.slice A3 m c3, Value.slice P1 n1 k1] 0 _ wr hS.out.2.2.2.2.2
        change bodyPost _ _ _ Exit.ret _ (wr.setCells (w.heap.size + 1) 0 [Value.slice A3 m c3, Value.slice P1 n1 k1])
        obtain ⟨Wf, hWf⟩ : ∃ Wf, wr.setCells (w.heap.size + 1) 0 [Value.slice A3 m c3, Value.slice P1 n1 k1] = Wf := ⟨_, rfl⟩
        have hdone := CInv_done (p1 := .slice P1 n1 k1) (v := .slice A3 m c3) hS.out (by have := hS.out.2.2; omega)
        rw [hWf] at hblk hdone ⊢
        have y0 : Wf.cell? ⟨w.heap.size + 1, 0, none⟩ = some (.slice A3 m c3) := by simp [World.cell?, hblk, setAll]
        have y1 : Wf.cell? ⟨w.heap.size + 1, 1, none⟩ = some (.slice P1 n1 k1) := by simp [World.cell?, hblk, setAll]
        refine bodyPost_ret (by simp [results, Tryd.results10, go_sem, y0, y1]; try rfl) rfl ?_
        obtain ⟨vs', ho', hrep', hb'⟩ := hdone
        have hml : m = (cutB B).length := by rw [cutB_len]; have := hS.out.2.2; omega
        rw [hml] at ho' ⊢
        exact ⟨A3, c3, rfl, vs', ho', hrep', hb'⟩
    · have d1 : decide ((m : Int) < (B.length : Int)) = false := decide_eq_false h1
      go_wp2
      have hblk := blk_setCells [Value.slice A3 m c3, Value.slice P1 n1 k1] 0 _ wr hS.out.2.2.2.2.2
      change bodyPost _ _ _ Exit.ret _ (wr.setCells (w.heap.size + 1) 0 [Value.slice A3 m c3, Value.slice P1 n1 k1])
      obtain ⟨Wf, hWf⟩ : ∃ Wf, wr.setCells (w.heap.size + 1) 0 [Value.slice A3 m c3, Value.slice P1 n1 k1] = Wf := ⟨_, rfl⟩
      have hdone := CInv_done (p1 := .slice P1 n1 k1) (v := .slice A3 m c3) hS.out (by have := hS.out.2.2; omega)
      rw [hWf] at hblk hdone ⊢
      have y0 : Wf.cell? ⟨w.heap.size + 1, 0, none⟩ = some (.slice A3 m c3) := by simp [World.cell?, hblk, setAll]
      have y1 : Wf.cell? ⟨w.heap.size + 1, 1, none⟩ = some (.slice P1 n1 k1) := by simp [World.cell?, hblk, setAll]
      refine bodyPost_ret (by simp [results, Tryd.results10, go_sem, y0, y1]; try rfl) rfl ?_
      obtain ⟨vs', ho', hrep', hb'⟩ := hdone
      have hml : m = (cutB B).length := by rw [cutB_len]; have := hS.out.2.2; omega
      rw [hml] at ho' ⊢
      exact ⟨A3, c3, rfl, vs', ho', hrep', hb'⟩
theorem cutB_short (B : List (List Int)) : ∀ x ∈ cutB B, x.length ≤ 120 := by
  intro x hx
  unfold cutB at hx
  obtain ⟨y, _, rfl⟩ := List.mem_map.1 hx
  rw [List.length_take]
  omega
theorem same_self_l0 (l : List S75) (hn : l.length ≤ 1000) : ∀ (k m : Nat), l.length - m < k → m ≤ l.length → rampartref21_Same.l0 k l l m = some true
  | 0, m, h, _ => absurd h (by omega)
  | k + 1, m, h, hm => by
    unfold rampartref21_Same.l0
    by_cases h1 : m < l.length
    · rw [if_pos (by omega), if_pos (by omega), if_pos (by omega), if_neg (by simp), show wrap64 ((m : Int) + 1) = ((m + 1 : Nat) : Int) by unfold wrap64; omega]
      exact same_self_l0 l hn k (m + 1) (by omega) (by omega)
    · rw [if_neg (by omega)]
theorem same_self (l : List S75) (hn : l.length ≤ 1000) : rampartref21_Same.f 1001 l l = some true := by
  unfold rampartref21_Same.f
  rw [if_pos rfl]
  exact same_self_l0 l hn 1001 0 (by omega) (by omega)
end Go.Proofs.YtoliipbmcekciaaDoor.QDc

namespace Go.Proofs.YtoliipbmcekciaaDoor.QDd
open Go.RowKit Go.Proofs.YtoliipbmcekciaaDoorW.PrintWords Go.Proofs.YtoliipbmcekciaaDoorW.PrintLast Go.Proofs.YtoliipbmcekciaaDoorW.PrintMore
open Go.Proofs.YtoliipbmcekciaaDoor.QDc (tk putL putN obj_below take_at yields_blk load_blk load_any store_blk blk_setCells setAll far_setCells below_setCells)
set_option linter.unusedVariables false
set_option linter.unusedSimpArgs false
def smB (C : Cf) : Bool := decide (C.l2.length ≤ 40 ∧ C.l0.length ≤ 20 ∧ C.l1.length ≤ 20 ∧ C.l3.length ≤ 20 ∧ C.l4.length ≤ 70 ∧ ∀ x ∈ C.l2, x.f1.length ≤ 20 ∧ x.f2.length ≤ 20)
theorem smB_lim {C : Cf} (hu : ∀ x ∈ C.l0, U64 x) (h : smB C = true) : C.Lim := by
  obtain ⟨b2, b0, b1, b3, b4, b5⟩ := of_decide_eq_true h
  exact ⟨by omega, by omega, ⟨by omega, fun x hx => by have := b5 x hx; omega⟩, by omega, by omega, hu⟩
def smI (C : Cf) (w : World) (m : Nat) (wr : World) : Prop := OB C w wr ∧ m ≤ C.l2.length ∧ ∀ i, i < m → (C.l2.getD i z87).f1.length ≤ 20 ∧ (C.l2.getD i z87).f2.length ≤ 20
set_option maxRecDepth 100000 in
set_option maxHeartbeats 2000000 in
theorem small_hand (C : Cf) (w : World) (hC : C.At w) : Calls Tryd.prog 15 #[.agg C.v] w fun e w' => e = .returned (.bool (smB C)) ∧ Below w.heap.size w w' := by
  have HC := Aside0.mk hC
  clear hC
  go_enter Tryd.func15, Tryd.ntmps15
  go_upto_region 1 with fail
  have HO := Aside0.mk (OB.start C w)
  generalize w.alloc (.cells C.v 28) = w2 at HO ⊢
  obtain ⟨x0, x1, x2, x3, x4, _, _, _⟩ := cf_cell HO.out.e0
  by_cases h0 : C.l2.length > 40
  · have e0 : decide ((C.l2.length : Int) > 40) = true := decide_eq_true (by omega)
    have f0 : decide (40 < (C.l2.length : Int)) = true := e0
    have g0 : decide (40 < C.l2.length) = true := decide_eq_true h0
    have HF : Aside0 (smB C = false) := ⟨decide_eq_false (by rintro ⟨_, _, _, _, _, _⟩; omega)⟩
    clear h0
    go_wp2_with fail
    go_ret
    exact ⟨by rw [HF.out]; rfl, HO.out.b⟩
  have e0 : decide ((C.l2.length : Int) > 40) = false := decide_eq_false (by omega)
  have f0 : decide (40 < (C.l2.length : Int)) = false := e0
  have g0 : decide (40 < C.l2.length) = false := decide_eq_false h0
  by_cases h1 : C.l0.length > 20
  · have e1 : decide ((C.l0.length : Int) > 20) = true := decide_eq_true (by omega)
    have f1 : decide (20 < (C.l0.length : Int)) = true := e1
    have g1 : decide (20 < C.l0.length) = true := decide_eq_true h1
    have HF : Aside0 (smB C = false) := ⟨decide_eq_false (by rintro ⟨_, _, _, _, _, _⟩; omega)⟩
    clear h0 h1
    go_wp2_with fail
    go_ret
    exact ⟨by rw [HF.out]; rfl, HO.out.b⟩
  have e1 : decide ((C.l0.length : Int) > 20) = false := decide_eq_false (by omega)
  have f1 : decide (20 < (C.l0.length : Int)) = false := e1
  have g1 : decide (20 < C.l0.length) = false := decide_eq_false h1
  by_cases h2 : C.l1.length > 20
  · have e2 : decide ((C.l1.length : Int) > 20) = true := decide_eq_true (by omega)
    have f2 : decide (20 < (C.l1.length : Int)) = true := e2
    have g2 : decide (20 < C.l1.length) = true := decide_eq_true h2
    have HF : Aside0 (smB C = false) := ⟨decide_eq_false (by rintro ⟨_, _, _, _, _, _⟩; omega)⟩
    clear h0 h1 h2
    go_wp2_with fail
    go_ret
    exact ⟨by rw [HF.out]; rfl, HO.out.b⟩
  have e2 : decide ((C.l1.length : Int) > 20) = false := decide_eq_false (by omega)
  have f2 : decide (20 < (C.l1.length : Int)) = false := e2
  have g2 : decide (20 < C.l1.length) = false := decide_eq_false h2
  by_cases h3 : C.l3.length > 20
  · have e3 : decide ((C.l3.length : Int) > 20) = true := decide_eq_true (by omega)
    have f3 : decide (20 < (C.l3.length : Int)) = true := e3
    have g3 : decide (20 < C.l3.length) = true := decide_eq_true h3
    have HF : Aside0 (smB C = false) := ⟨decide_eq_false (by rintro ⟨_, _, _, _, _, _⟩; omega)⟩
    clear h0 h1 h2 h3
    go_wp2_with fail
    go_ret
    exact ⟨by rw [HF.out]; rfl, HO.out.b⟩
  have e3 : decide ((C.l3.length : Int) > 20) = false := decide_eq_false (by omega)
  have f3 : decide (20 < (C.l3.length : Int)) = false := e3
  have g3 : decide (20 < C.l3.length) = false := decide_eq_false h3
  by_cases h4 : C.l4.length > 70
  · have e4 : decide ((C.l4.length : Int) > 70) = true := decide_eq_true (by omega)
    have f4 : decide (70 < (C.l4.length : Int)) = true := e4
    have g4 : decide (70 < C.l4.length) = true := decide_eq_true h4
    have HF : Aside0 (smB C = false) := ⟨decide_eq_false (by rintro ⟨_, _, _, _, _, _⟩; omega)⟩
    clear h0 h1 h2 h3 h4
    go_wp2_with fail
    go_ret
    exact ⟨by rw [HF.out]; rfl, HO.out.b⟩
  have e4 : decide ((C.l4.length : Int) > 70) = false := decide_eq_false (by omega)
  have f4 : decide (70 < (C.l4.length : Int)) = false := e4
  have g4 : decide (70 < C.l4.length) = false := decide_eq_false h4
  have HB : Aside0 (C.l2.length ≤ 40 ∧ C.l0.length ≤ 20 ∧ C.l1.length ≤ 20 ∧ C.l3.length ≤ 20 ∧ C.l4.length ≤ 70) := ⟨by omega⟩
  clear h0 h1 h2 h3 h4
  have H0 : Aside0 (smI C w 0 w2) := ⟨⟨HO.out, Nat.zero_le _, fun i hi => absurd hi (by omega)⟩⟩
  go_wp2_with fail
  clear x0 x1 x2 x3 x4 e0 e1 e2 e3 e4 f0 f1 f2 f3 f4 g0 g1 g2 g3 g4
  go_loopw [3] (fun i wr => ∃ m : Nat, i = .int .i64 (m : Int) ∧ Aside0 (smI C w m wr)) (fun i _ => C.l2.length - (intOf i).toNat)
  case atStart => exact ⟨0, rfl, H0⟩
  case round =>
    clear H0
    obtain ⟨m, rfl, hS⟩ := hrel
    have x2 := (cf_cell hS.out.1.e0).2.2.1
    by_cases h1 : m < C.l2.length
    · have H1 := Aside0.mk h1
      have d1 : decide ((m : Int) < (C.l2.length : Int)) = true := decide_eq_true (by omega)
      have d2 : decide (m < C.l2.length) = true := decide_eq_true h1
      have hx0 : (0 : Int) ≤ (m : Int) := by omega
      have hx1 : (m : Int) < (C.l2.length : Int) := by omega
      have hw : wrap64 ((m : Int) + 1) = (m : Int) + 1 := by have := HB.out.1; unfold wrap64; omega
      have HH : Aside0 (C.l2.length - ((m : Int) + 1).toNat < C.l2.length - ((m : Int)).toNat) := ⟨by omega⟩
      obtain ⟨ad, B1, b1, B2, b2, eA, q0, q1, q2, _⟩ := at_T87 (HC.out.below hS.out.1.b).r2 (m : Int) hx0 hx1
      rw [show rd_T87 C.l2 (m : Int) = C.l2.getD m z87 from rfl, Int.toNat_natCast] at q0 q1 q2
      obtain ⟨t, ht⟩ : ∃ t, C.l2.getD m z87 = t := ⟨_, rfl⟩
      rw [ht] at q0 q1 q2
      have HT := Aside0.mk ht
      have HIN : Aside0 (t ∈ C.l2) := ⟨by rw [← ht, List.getD_eq_getElem?_getD, List.getElem?_eq_getElem h1]; exact List.getElem_mem h1⟩
      rw [eA] at x2
      clear h1 ht
      by_cases k0 : t.f1.length > 20
      · have e0 : decide ((t.f1.length : Int) > 20) = true := decide_eq_true (by omega)
        have f0 : decide (20 < (t.f1.length : Int)) = true := e0
        have g0 : decide (20 < t.f1.length) = true := decide_eq_true k0
        have HF : Aside0 (smB C = false) := ⟨decide_eq_false (by rintro ⟨_, _, _, _, _, g⟩; have := g t HIN.out; omega)⟩
        clear k0
        go_wp2_with fail
        go_ret
        exact ⟨by rw [HF.out]; rfl, hS.out.1.b⟩
      have e0 : decide ((t.f1.length : Int) > 20) = false := decide_eq_false (by omega)
      have f0 : decide (20 < (t.f1.length : Int)) = false := e0
      have g0 : decide (20 < t.f1.length) = false := decide_eq_false k0
      by_cases k1 : t.f2.length > 20
      · have e1 : decide ((t.f2.length : Int) > 20) = true := decide_eq_true (by omega)
        have f1 : decide (20 < (t.f2.length : Int)) = true := e1
        have g1 : decide (20 < t.f2.length) = true := decide_eq_true k1
        have HF : Aside0 (smB C = false) := ⟨decide_eq_false (by rintro ⟨_, _, _, _, _, g⟩; have := g t HIN.out; omega)⟩
        clear k0 k1
        go_wp2_with fail
        go_ret
        exact ⟨by rw [HF.out]; rfl, hS.out.1.b⟩
      have e1 : decide ((t.f2.length : Int) > 20) = false := decide_eq_false (by omega)
      have f1 : decide (20 < (t.f2.length : Int)) = false := e1
      have g1 : decide (20 < t.f2.length) = false := decide_eq_false k1
      have HK : Aside0 (t.f1.length ≤ 20 ∧ t.f2.length ≤ 20) := ⟨by omega⟩
      clear k0 k1
      go_wp2_with fail
      refine ⟨⟨m + 1, by rw [hw]; rfl, ⟨⟨hS.out.1, by have := H1.out; omega, fun i hi => ?_⟩⟩⟩, by rw [hw]; exact HH.out⟩
      by_cases e : i = m
      · subst e; rw [HT.out]; exact HK.out
      · exact hS.out.2.2 i (by omega)
    · have d1 : decide ((m : Int) < (C.l2.length : Int)) = false := decide_eq_false (by omega)
      have d2 : decide (m < C.l2.length) = false := decide_eq_false h1
      have hm : m = C.l2.length := by have := hS.out.2.1; omega
      have HT : Aside0 (smB C = true) := ⟨decide_eq_true (by
        obtain ⟨b2, b0, b1, b3, b4⟩ := HB.out
        refine ⟨b2, b0, b1, b3, b4, fun x hx => ?_⟩
        obtain ⟨i, hi, rfl⟩ := List.mem_iff_getElem.1 hx
        have := hS.out.2.2 i (by rw [hm]; exact hi)
        rw [List.getD_eq_getElem?_getD, List.getElem?_eq_getElem hi] at this
        exact this)⟩
      clear hm h1
      go_wp2_with fail
      go_ret
      exact ⟨by rw [HT.out]; rfl, hS.out.1.b⟩
end Go.Proofs.YtoliipbmcekciaaDoor.QDd

namespace Go.Proofs.YtoliipbmcekciaaDoor.QDc.Live
open Go.RowKit Go.Shelf Go.Proofs.YtoliipbmcekciaaDoorW.PrintWords Go.Proofs.YtoliipbmcekciaaDoorW.PrintLast Go.Proofs.YtoliipbmcekciaaDoorW.PrintMore
set_option linter.unusedVariables false
set_option linter.unusedSimpArgs false
theorem shape_poll : rampartref03_shape.f 30 9 0 0 0 0 = some [9, 0, 0, 0, 0, 0, 0, 0, 0, 0, 0, 0, 0, 0, 0, 0] := by decide +kernel
set_option maxRecDepth 100000 in
set_option maxHeartbeats 2000000 in
theorem Bytes_ok (k a r h p : Int) (t : List Int) (n : Nat) (w : World) (hok : okReq k a r h p = true) (hs : rampartref03_shape.f n k a r h p = some t) : Calls Tryd.prog 35 #[.agg (cReq k a r h p)] w fun e w' => ∃ v0 : Value, e = .returned (.tuple #[v0, .int .i64 0]) ∧ Kd.R (Kd.int .u8) 5 w' w.heap.size (fun _ => True) v0 t ∧ Below w.heap.size w w' := by
  have HOK := Aside0.mk hok
  have HS := Aside0.mk hs
  clear hok hs
  have HB := Aside0.mk ((Below.refl w.heap.size w).alloc (Nat.le_refl _) (.cells (cReq k a r h p) 55))
  have E0 := World.alloc_heap_new w (.cells (cReq k a r h p) 55)
  go_enter Tryd.func35, Tryd.ntmps35
  go_upto_region 1 with fail
  change Code.wp Tryd.prog _ _ _ (w.alloc (.cells (cReq k a r h p) 55))
  generalize w.alloc (.cells (cReq k a r h p) 55) = w2 at HB E0 ⊢
  have HE := Aside0.mk E0
  clear E0
  go_upto_region 3 with (first | ((with_reducible refine gate_ (.load 55 (.tmp 1)) rfl ?_); refine load_blk rfl 55 (.tmp 1) rfl w.heap.size (cReq k a r h p) 55 rfl _ HE.out Tryd.underlying55 rfl (by kernel_rfl) ?_) | (go_at_call 63; refine (Is_calls k a r h p _).mono ?_; rintro e w3 ⟨rfl, hb⟩; rw [HOK.out]; have N3 := Aside0.mk hb; clear hb))
  obtain ⟨x0, x1, x2, x3, x4⟩ := req_cells (obj_below N3.out HE.out)
  have HB3 := Aside0.mk (HB.out.trans (N3.out.mono HB.out.size))
  go_wp2_with (go_at_call 64; refine (rampartref03_shape.calls n _ _ _ _ _ _ _ HS.out).mono ?_; rintro e w4 ⟨v0, rfl, hR, hb⟩; obtain ⟨A4, c4, rfl, _, _⟩ := Kd.R_reads hR; have H4 := Aside0.mk (And.intro hR hb); clear hR hb)
  go_ret2
  exact ⟨_, rfl, Kd.R_lower H4.out.1 HB3.out.size, HB3.out.trans (H4.out.2.mono HB3.out.size)⟩
theorem items_alive : items [[9, 0, 0, 0, 0, 0, 0, 0, 0, 0, 0, 0, 0, 0, 0, 0, 1, 2]] 0 4 = [⟨⟨9, 0, 0, 0, 0⟩, true⟩, ⟨⟨0, 0, 0, 0, 0⟩, false⟩] := by kernel_rfl
theorem read_one {W : World} {l : List Int} {A : Option Addr} {c : Nat} (hle : l.length ≤ c) (h : Kd.C (Kd.int .u8) W A l.length l) : Kd.C (Kd.slice 5 (Kd.int .u8)) (W.alloc (.cells #[.slice A l.length c] 38)) (some ⟨W.heap.size, 0, none⟩) 1 [l] := by
  refine ⟨rfl, by omega, fun _ => ⟨_, rfl, fun j p hj => ?_⟩⟩
  match j, hj with
  | 0, hj =>
    obtain rfl : l = p := by simpa using hj
    refine ⟨[.slice A l.length c], rfl, ⟨A, c, rfl, hle, Kd.C_below h ((Below.refl _ W).alloc (Nat.le_refl _) _)⟩, fun i u hu => ?_⟩
    exact cells_new W #[.slice A l.length c] 38 _ u (by rw [Nat.zero_mul, Nat.zero_add]; exact hu)
  | j + 1, hj => simp at hj
set_option maxRecDepth 100000 in
set_option maxHeartbeats 2000000 in
theorem alive_calls (w : World) (hg : Glob w) : Calls Tryd.prog 14 #[] w fun e w' => e = .returned (.bool true) ∧ Below w.heap.size w w' := by
  have HG := Aside0.mk hg
  clear hg
  go_enter Tryd.func14, Tryd.ntmps14
  go_upto_region 2 with (first | (go_at_call 35; refine (Bytes_ok 9 0 0 0 0 _ 30 _ (by decide) shape_poll).mono ?_; rintro e w1 ⟨v0, rfl, hR0, hB0⟩; obtain ⟨A1, c1, rfl, hc1, hC1⟩ := Kd.R_reads hR0; have H1 := Aside0.mk (And.intro hR0 (And.intro hc1 hB0)); clear hR0 hC1 hc1 hB0))
  have HO : Aside0 ((w1.alloc (.cells #[.int .u8 1, .int .u8 2] 5)).ownsRow w.heap.size 5 1 (.slice A1 16 c1) ([9, 0, 0, 0, 0, 0, 0, 0, 0, 0, 0, 0, 0, 0, 0, 0] : List Int).length (nums .u8 [9, 0, 0, 0, 0, 0, 0, 0, 0, 0, 0, 0, 0, 0, 0, 0])) := ⟨(Kd.own_of_R H1.out.1).alloc _⟩
  have HI : Aside0 (ReadsInt (w1.alloc (.cells #[.int .u8 1, .int .u8 2] 5)) .u8 (some ⟨w1.heap.size, 0, none⟩) 2 [1, 2]) := ⟨by
    refine ⟨rfl, by omega, fun _ => ⟨_, rfl, fun j hj => ?_⟩⟩
    refine cells_new w1 #[.int .u8 1, .int .u8 2] 5 j _ ?_
    match j, hj with
    | 0, _ => rfl
    | 1, _ => rfl⟩
  have HB : Aside0 (Below w.heap.size w (w1.alloc (.cells #[.int .u8 1, .int .u8 2] 5))) := ⟨H1.out.2.2.alloc H1.out.2.2.size _⟩
  go_upto_region 3 with (first
    | ((with_reducible refine gate_builtin (b := .append) rfl ?_); at_builtin; refine print_append_row (w0 := w) w.heap.size rfl (.tmp 10) (.tmp 11) 38 5 .u8 1 rfl Tryd.underlying38 info5 (by decide) (.slice A1 16 c1) [9, 0, 0, 0, 0, 0, 0, 0, 0, 0, 0, 0, 0, 0, 0, 0] [1, 2] (some ⟨w1.heap.size, 0, none⟩) 2 2 rfl rfl HO.out HI.out HB.out HB.out.size (by simp) ?_; intro v1 w2 hown hB2 hg2 hat; obtain ⟨A2, c2, rfl, hc2, hrd⟩ := own_reads_of_le (d := 0) hown; have HX := Aside0.mk (And.intro hB2 (And.intro hown hc2)); clear hown hB2 hg2 hat hc2 hrd))
  have hC2 : Kd.C (Kd.int .u8) w2 A2 18 [9, 0, 0, 0, 0, 0, 0, 0, 0, 0, 0, 0, 0, 0, 0, 0, 1, 2] := by
    obtain ⟨A', c', e, hc', hrd⟩ := own_reads_of_le (d := 0) HX.out.2.1
    have e' : A2 = A' := by injection e
    subst e'
    exact Kd.C_of_reads hrd
  have hone := read_one (l := [9, 0, 0, 0, 0, 0, 0, 0, 0, 0, 0, 0, 0, 0, 0, 0, 1, 2]) HX.out.2.2 hC2
  refine (Tick_calls _ _ _ _ _ _ _ _ 0 4 _ 1 [[9, 0, 0, 0, 0, 0, 0, 0, 0, 0, 0, 0, 0, 0, 0, 0, 1, 2]] _ (by simp) hone (by simp) (HG.out.below (HX.out.1.alloc HX.out.1.size _))).mono ?_
  rw [items_alive]
  rintro e w3 ⟨A3, c3, rfl, hc3, hC3, hB3⟩
  have HB3 : Aside0 (Below w.heap.size w w3) := ⟨(HX.out.1.alloc HX.out.1.size _).trans (hB3.mono (by have := HX.out.1.size; simp; omega))⟩
  clear hB3 hC2 hone
  obtain ⟨ad, rfl, hq⟩ := hC3.2.2 (by simp)
  clear hC3
  obtain ⟨q0, _, hk0, hc0⟩ := hq 0 _ rfl
  obtain ⟨q1, _, hk1, hc1'⟩ := hq 1 _ rfl
  obtain rfl := k75_open hk0
  obtain rfl := k75_open hk1
  have x0 := hc0 0 _ rfl
  have x5 := hc0 5 _ rfl
  have y0 := hc1' 0 _ rfl
  have y1 := hc1' 1 _ rfl
  have y2 := hc1' 2 _ rfl
  have y3 := hc1' 3 _ rfl
  have y4 := hc1' 4 _ rfl
  have y5 := hc1' 5 _ rfl
  clear hk0 hk1 hc0 hc1' hq
  simp only [show k75.sz = 6 from rfl, Nat.reduceMul, Nat.reduceAdd] at x0 x5 y0 y1 y2 y3 y4 y5
  change w3.cell? ⟨ad.block, ad.off + 5, none⟩ = _ at x5
  change w3.cell? ad = _ at x0
  change w3.cell? ⟨ad.block, ad.off + 6, none⟩ = _ at y0
  change w3.cell? ⟨ad.block, ad.off + 7, none⟩ = _ at y1
  change w3.cell? ⟨ad.block, ad.off + 8, none⟩ = _ at y2
  change w3.cell? ⟨ad.block, ad.off + 9, none⟩ = _ at y3
  change w3.cell? ⟨ad.block, ad.off + 10, none⟩ = _ at y4
  change w3.cell? ⟨ad.block, ad.off + 11, none⟩ = _ at y5
  go_wp2
  go_ret
  exact ⟨rfl, HB3.out⟩
end Go.Proofs.YtoliipbmcekciaaDoor.QDc.Live

