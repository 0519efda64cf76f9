/- FrameTells: the ticks told one by one, the walk of the closures. -/
import Derived.Test.YtmfmliblieemiaaNTFr
import Derived.RangeFuncBox
import Derived.StillTailTactics
namespace Go.Proofs.Ytmfmliblieemiaa.QFr
open Go.RowKit Go.Proofs.YtmfmliblieemiaaW.PrintWords Go.Proofs.YtmfmliblieemiaaW.PrintLast Go.Proofs.YtmfmliblieemiaaW.PrintMore
set_option linter.unusedVariables false
set_option linter.unusedSimpArgs false

/-- What has been got lies in its box and is a row of the call's own. -/
def Got (w1 : World) (acc : List Int) (wr : World) : Prop :=
  Below w1.heap.size w1 wr ∧ w1.heap.size < wr.heap.size ∧ ∃ v, Boxed wr w1.heap.size 22 v ∧ wr.ownsRow w1.heap.size 3 1 v acc.length (nums .i64 acc)

theorem Got.drewN {w1 : World} {acc : List Int} {wr : World} (h : Got w1 acc wr) (n : Nat) : Got w1 acc (wr.drewN n) := by
  obtain ⟨hb, hs, v, h1, h2⟩ := h
  exact ⟨pw_below_drewN hb n, hs, v, h1, h2⟩

set_option maxHeartbeats 1000000 in
theorem yield_calls (w1 : World) (M : Nat) (m x : Int) (acc : List Int) (wr : World) (hM : w1.cell? ⟨M, 0, none⟩ = some (.int .i64 m)) (hG : Got w1 acc wr) (hl : acc.length < 1000) :
    Calls Try.prog 27 #[.int .i64 x, .pointer (some ⟨w1.heap.size, 0, none⟩), .pointer (some ⟨M, 0, none⟩)] wr fun e w' => e = .returned (.bool (decide (((acc.length + 1 : Nat) : Int) < m))) ∧ Got w1 (acc ++ [x]) w' := by
  obtain ⟨hb, hs, v, hbx, hrow⟩ := hG
  have hcell := hbx.cell
  have HBX := Aside0.mk hbx
  have HROW := Aside0.mk hrow
  have HB := Aside0.mk hb
  have HM := Aside0.mk hM
  clear hb hM hbx hrow
  go_enter Try.func27, Try.ntmps27
  go_wp2_with ((with_reducible refine gate_builtin (b := .append) rfl ?_); at_builtin; refine print_append_num (w0 := wr) w1.heap.size rfl (.tmp 5) (.tmp 7) 22 3 .i64 8 rfl Try.underlying22 info3 (by decide) v acc x rfl rfl HROW.out (Below.refl _ _) (by omega) (by omega) ?_; intro v1 w2 hown hB2 hg2 hat; obtain ⟨g', cap', rfl⟩ := ownsRow_succ (k := acc.length) (by simpa using hown); have hv1 := HBX.out.kept hg2 (HBX.out.not_row (by decide) HROW.out); have hc1 := hv1.cell; have hf1 := hv1.frozen; have hcM : (w2.setCell ⟨w1.heap.size, 0, none⟩ (.slice (some ⟨g', 0, none⟩) (acc.length + 1) cap')).cell? ⟨M, 0, none⟩ = some (.int .i64 m) := (cell_far (by have := World.block_lt_of_cell? w1 _ HM.out; simp at this ⊢; omega) _).trans ((hB2.cell (World.block_lt_of_cell? w1 _ HM.out)).trans (pw_cell_below HB.out HM.out)); have HV1 := Aside0.mk hv1; have HOWN := Aside0.mk hown; have HB2 := Aside0.mk hB2; clear hv1 hown hB2 hg2 hat)
  go_ret
  have h1 := HB.out
  have h2 := HB2.out
  refine ⟨rfl, (⟨h2.os.trans h1.os, h2.tape.trans h1.tape, h2.output.trans h1.output, Nat.le_trans h1.size h2.size, fun k hk => (h2.block k hk).trans (h1.block k hk)⟩ : Below w1.heap.size w1 w2).setCell (p := ⟨w1.heap.size, 0, none⟩) (Nat.le_refl _) _, ?_, ?_⟩
  · have := h2.size
    simp [World.setCell]; omega
  · exact ⟨_, HV1.out.set _, by simpa using ownsRow_setCell_other HOWN.out (fun e => HV1.out.not_row (by decide) HOWN.out e.symm) _⟩
set_option maxHeartbeats 400000 in
theorem owner_still (A : Option Addr) (c : Nat) (l : List Int) (x : Nat) (w : World) (hr : Kd.C (Kd.int .i64) w A l.length l) (h1 : 1 ≤ l.length) (h2 : l.length ≤ 64) :
    Calls Try.prog 37 #[.slice A l.length c, .int .i64 (x : Int)] w fun e w' => e = .returned (.int .i64 (rd l ((x % l.length : Nat) : Int))) ∧ w' = w := by
  have hm := Nat.mod_lt x (show 0 < l.length by omega)
  obtain ⟨ad, rfl, hc⟩ := Kd.at_int hr ((x % l.length : Nat) : Int) (by omega) (by omega)
  have ht := tmod_nat x l.length
  clear hr
  obtain ⟨y, hy⟩ : ∃ y : Nat, x % l.length = y := ⟨_, rfl⟩
  rw [hy] at hm hc ht ⊢
  rw [Int.toNat_natCast] at hc
  go_enter Try.func37, Try.ntmps37
  go_wp2
  go_ret
  exact ⟨rfl, rfl⟩

theorem hmf2 (fn : Fn) (first cap : Array Value) (w : World) : (Instr.makeFunc fn first cap).run Try.prog w = .ok (.func fn first cap) w := rfl

set_option maxHeartbeats 1000000 in
theorem tell_not (w1 : World) (A : Option Addr) (c : Nat) (l : List Int) (t fr : Int) (F U T : Nat) (yv : Value) (wr : World)
    (hF : w1.cell? ⟨F, 0, none⟩ = some (.slice A l.length c)) (hU : w1.cell? ⟨U, 0, none⟩ = some (.int .i64 fr)) (hT : w1.cell? ⟨T, 0, none⟩ = some (.int .i64 t))
    (hr : Kd.C (Kd.int .i64) w1 A l.length l) (hlc : l.length ≤ c) (hG : Got w1 [] wr) (h : okRow l = false ∨ 1048576 < fr) :
    Calls Try.prog 43 #[yv, .pointer (some ⟨F, 0, none⟩), .pointer (some ⟨U, 0, none⟩), .pointer (some ⟨T, 0, none⟩)] wr fun e w' => e = .returned (.tuple #[]) ∧ Got w1 [] w' := by
  have hF := pw_cell_below hG.1 hF
  have hU := pw_cell_below hG.1 hU
  have HR : Aside0 (Kd.C (Kd.int .i64) wr A l.length l) := ⟨Kd.C_below hr hG.1⟩
  have HG := Aside0.mk hG
  have HM : Aside0 (frame_row_may.f l = some (okRow l)) := ⟨may_is l⟩
  clear hr hG
  cases hk : okRow l with
  | false =>
    rw [hk] at HM
    clear hk h
    go_enter Try.func43, Try.ntmps43
    go_wp2_with (go_at_call 33; refine (frame_row_may.calls A c l false _ HR.out hlc HM.out).mono ?_; rintro e w' ⟨rfl, ⟨nd, rfl⟩⟩)
    (try simp only [Exit.inBlock, Exit.then]); refine bodyPost_ret (results_none rfl _ _ _) rfl ?_
    exact ⟨rfl, HG.out.drewN _⟩
  | true =>
    have hb : decide (1048576 < fr) = true := decide_eq_true (h.resolve_left (by simp [hk]))
    rw [hk] at HM
    clear hk h
    go_enter Try.func43, Try.ntmps43
    go_wp2_with (go_at_call 33; refine (frame_row_may.calls A c l true _ HR.out hlc HM.out).mono ?_; rintro e w' ⟨rfl, ⟨nd, rfl⟩⟩)
    (try simp only [Exit.inBlock, Exit.then]); refine bodyPost_ret (results_none rfl _ _ _) rfl ?_
    exact ⟨rfl, HG.out.drewN _⟩

set_option maxRecDepth 100000 in
set_option maxHeartbeats 1000000 in
theorem tell_loop (w1 : World) (A : Option Addr) (c : Nat) (l : List Int) (t fr : Int) (m F U T M x0 d0 : Nat) (R : List Int) (ws : World)
    (hF : w1.cell? ⟨F, 0, none⟩ = some (.slice A l.length c)) (hU : w1.cell? ⟨U, 0, none⟩ = some (.int .i64 fr)) (hT : w1.cell? ⟨T, 0, none⟩ = some (.int .i64 t)) (hM : w1.cell? ⟨M, 0, none⟩ = some (.int .i64 (m : Int)))
    (hr : Kd.C (Kd.int .i64) w1 A l.length l) (hlc : l.length ≤ c) (hG : Got w1 [] ws) (hk : okRow l = true) (hfr : ¬ 1048576 < fr) (hm1 : 1 ≤ m) (hm2 : m ≤ 60)
    (hx0 : (x0 : Int) = mx fr 0) (hd0 : x0 + d0 = 1048577) (hR : R = tl l t d0 x0 m) :
    Calls Try.prog 43 #[.func (.func 27) #[] #[.pointer (some ⟨w1.heap.size, 0, none⟩), .pointer (some ⟨M, 0, none⟩)], .pointer (some ⟨F, 0, none⟩), .pointer (some ⟨U, 0, none⟩), .pointer (some ⟨T, 0, none⟩)] ws fun e w' => e = .returned (.tuple #[]) ∧ Got w1 R w' := by
  have hmf' := hmf2
  have hF' := pw_cell_below hG.1 hF
  have hU' := pw_cell_below hG.1 hU
  have HR : Aside0 (Kd.C (Kd.int .i64) ws A l.length l) := ⟨Kd.C_below hr hG.1⟩
  have HR1 := Aside0.mk hr
  have HG := Aside0.mk hG
  have HT := Aside0.mk hT
  have HMc := Aside0.mk hM
  have hl := okRow_iff hk
  have HM : Aside0 (frame_row_may.f l = some true) := ⟨by rw [may_is, hk]⟩
  have hb : decide (1048576 < fr) = false := decide_eq_false hfr
  have HRR : Aside0 (R = [] ++ tl l t d0 x0 (m - ([] : List Int).length)) := ⟨by simpa using hR⟩
  have HX := Aside0.mk hx0
  have HD := Aside0.mk hd0
  clear hr hG hk hfr hR hx0 hF hU hT hM hd0
  go_enter Try.func43, Try.ntmps43
  go_wp2_with (go_at_call 33; refine (frame_row_may.calls A c l true _ HR.out hlc HM.out).mono ?_; rintro e w' ⟨rfl, ⟨nd, rfl⟩⟩)
  all_goals
    (go_loopw [7] (fun i wr => ∃ (x d : Nat) (acc : List Int), i = .int .i64 x ∧ Aside0 (x + d = 1048577) ∧ Aside0 (acc.length < m) ∧ Aside0 (R = acc ++ tl l t d x (m - acc.length)) ∧ Aside0 (Got w1 acc wr)) (fun i _ => 1048577 - (intOf i).toNat)
     case atStart => exact ⟨x0, d0, [], by rw [HX.out]; congr 1; unfold mx; split <;> omega, HD, ⟨by simp; omega⟩, HRR, ⟨HG.out.drewN _⟩⟩
     case round =>
      obtain ⟨x, d, acc, rfl, hxd, hlen, hR, hgot⟩ := hrel
      by_cases hlt : (x : Int) ≤ 1048576
      · obtain ⟨d, rfl⟩ : ∃ d', d = d' + 1 := ⟨d - 1, by have := hxd.out; omega⟩
        have hT2 := pw_cell_below hgot.out.1 HT.out
        have HRn : Aside0 (Kd.C (Kd.int .i64) wr A l.length l) := ⟨Kd.C_below HR1.out hgot.out.1⟩
        obtain ⟨y, hy⟩ : ∃ y, rd l ((x % l.length : Nat) : Int) = y := ⟨_, rfl⟩
        have HS : Aside0 (∀ n, Calls Try.prog 37 #[.slice A l.length c, .int .i64 (x : Int)] (wr.drewN n) fun e w' => e = .returned (.int .i64 y) ∧ w' = wr.drewN n) := ⟨fun n => by rw [← hy]; exact owner_still A c l x _ (Kd.C_drewN HRn.out n) hl.1 hl.2⟩
        by_cases hq : y = t
        · have hd : decide (y = t) = true := decide_eq_true hq
          have HY : Aside0 (tl l t (d + 1) x (m - acc.length) = (x : Int) :: tl l t d (x + 1) (m - acc.length - 1)) := ⟨by rw [tl_succ, hy, if_neg (by have := hlen.out; omega), if_pos hq]⟩
          clear hy
          go_wp2
          go_still_tail 8, (by kernel_rfl)
          still_call (HS.out 1)
          repeat still_step
          refine wpStill_nil ?_
          change wpList _ _ _ _ _ (wr.drewN 1)
          by_cases hz : ((acc.length + 1 : Nat) : Int) < m
          · have HZ := Lib.hid (decide_eq_true hz)
            clear hz
            go_wp2_with (go_at_call 27; refine (yield_calls w1 M m x acc _ HMc.out (hgot.out.drewN 1) (by have := hlen.out; omega)).mono ?_; rw [HZ.out]; rintro e w' ⟨rfl, hgot2⟩; have HG2 := Aside0.mk hgot2; clear hgot2)
            go_roundw
            case rel => exact ⟨x + 1, d, acc ++ [(x : Int)], by go_num, ⟨by have := hxd.out; omega⟩, ⟨by have := of_decide_eq_true HZ.out; simp; omega⟩, ⟨by rw [hR.out, HY.out]; simp [Nat.sub_sub]⟩, HG2⟩
            case measure => simp [intOf]; omega
          · have HZ := Lib.hid (decide_eq_false hz)
            clear hz
            go_wp2_with (go_at_call 27; refine (yield_calls w1 M m x acc _ HMc.out (hgot.out.drewN 1) (by have := hlen.out; omega)).mono ?_; rw [HZ.out]; rintro e w' ⟨rfl, hgot2⟩; have HG2 := Aside0.mk hgot2; clear hgot2)
            (try simp only [Exit.inBlock, Exit.then]); refine bodyPost_ret (results_none rfl _ _ _) rfl ?_
            refine ⟨rfl, ?_⟩
            rw [hR.out, HY.out, show m - acc.length - 1 = 0 by have := of_decide_eq_false HZ.out; omega, tl_zero]
            exact HG2.out
        · have hd : decide (y = t) = false := decide_eq_false hq
          have HY : Aside0 (tl l t (d + 1) x (m - acc.length) = tl l t d (x + 1) (m - acc.length)) := ⟨by rw [tl_succ, hy, if_neg (by have := hlen.out; omega), if_neg hq]⟩
          clear hy
          go_wp2
          go_quiet ((go_at_call 37; with_reducible exact (HS.out _).mono fun e w' h => ⟨h.1, _, h.2⟩))
          go_wp2
          go_roundw
          case rel => exact ⟨x + 1, d, acc, by go_num, ⟨by have := hxd.out; omega⟩, hlen, ⟨by rw [hR.out, HY.out]⟩, ⟨hgot.out.drewN _⟩⟩
          case measure => simp [intOf]; omega
      · obtain rfl : d = 0 := by have := hxd.out; omega
        go_wp2
        go_end0
        refine ⟨rfl, ?_⟩
        rw [hR.out, show tl l t 0 x (m - acc.length) = [] from rfl, List.append_nil]
        exact hgot.out)
end Go.Proofs.Ytmfmliblieemiaa.QFr
