/- Agenda: the law's do. Written by a program of this repo (tools/gen_ag16.py). -/
import Derived.Test.YthjppjcmapgkpaaPPAg
namespace Go.Proofs.Ythjppjcmapgkpaa.QAg
open Go.RowKit Go.Maps Go.Proofs.YthjppjcmapgkpaaW.PrintWords Go.Proofs.YthjppjcmapgkpaaW.PrintLast Go.Proofs.YthjppjcmapgkpaaW.PrintMore
set_option linter.unusedVariables false
set_option linter.unusedSimpArgs false
theorem own_ag {w w' : World} {b mb B base n : Nat} {nx : Int} {M : List En} {v : Value} {xs : List Value} (h : w.ownsRow base 27 2 v n xs) (ha : Ax w b mb B nx M) (k : Ag b mb B w w') : w'.ownsRow base 27 2 v n xs := own_move h (fun i hi => by
  obtain ⟨⟨Cb, hb⟩, es, cl, hm⟩ := ha.blks
  obtain ⟨cells, hc⟩ := own_typed h i hi
  rw [k.box hc (fun h0 => by rw [h0, hb] at hc; injection hc with hc; injection hc with _ hc; exact absurd hc (by decide)) (fun h0 => by rw [h0, hm] at hc; cases hc) ⟨by decide, by decide⟩, hc])
/-- Where the wanted row stands. -/
def WaI (w0 : World) (b mb B rb C : Nat) (nx : Int) (M : List En) (n1 : Nat) (v : Value) (j : Nat) (w : World) : Prop := Jp w0 b mb B rb C nx M ⟨nx - 1, leftN j M⟩ w ∧ (seqN j M).length = j ∧ w.ownsRow n1 27 2 v j (fT (seqN j M)) ∧ n1 ≤ w.heap.size
theorem Jp.rlen {w0 w : World} {b mb B rb C : Nat} {nx : Int} {M : List En} {r : RS} (h : Jp w0 b mb B rb C nx M r w) : rlenAt w rb = r.L.length := by
  obtain ⟨v, hv⟩ := h.rl
  obtain ⟨A, c, rfl, _⟩ := hv.form
  unfold rlenAt
  rw [hv.cells.1]
theorem Same_n {w : World} {b1 b2 c1 c2 n : Nat} {A1 A2 : Option Addr} {l1 l2 : List En} (hl : l1.length = n) (he : fT l1 = fT l2) (h1 : w.ownsRow b1 27 2 (.slice A1 n c1) n (fT l1)) (h2 : w.ownsRow b2 27 2 (.slice A2 n c2) n (fT l2)) (hn : n ≤ 100000) : Calls Try.prog 24 #[.slice A1 n c1, .slice A2 n c2] w fun r w' => r = .returned (.bool true) ∧ Below w.heap.size w w' := by
  subst hl
  exact Same_eq he h1 h2 hn
theorem Jp.inner {w0 w w' : World} {b mb B rb C : Nat} {nx : Int} {M : List En} {r : RS} {row : Option Nat} (h : Jp w0 b mb B rb C nx M r w) (hg : w.grownBy w' row) (ht : ∀ i, row = some i → ∃ cells, w.heap[i]? = some (.cells cells 27 (0, 0))) (hb : ∀ i, row = some i → w0.heap.size ≤ i) : Jp w0 b mb B rb C nx M r w' := by
  have key : ∀ (i : Nat) (cur : Array Value) (t : TypeId), w.heap[i]? = some (.cells cur t (0, 0)) → t ≠ 27 → w'.heap[i]? = w.heap[i]? := fun i cur t hi h27 => hg.block i (Array.getElem?_eq_some_iff.1 hi).1 (fun hc => by
    obtain ⟨cells, h1⟩ := ht i hc.symm
    rw [hi] at h1
    injection h1 with h1
    injection h1 with _ h1
    exact h27 h1)
  obtain ⟨v, hv⟩ := h.rl
  obtain ⟨u, n, e, h1, h2⟩ := h.ax
  refine ⟨⟨u, n, e, h1.keep hg.size (fun i cur t hi h3 => key i cur t hi (by rcases h3 with h3 | h3 | h3 <;> (subst h3; decide))) (fun es cl hm => hg.block mb (Array.getElem?_eq_some_iff.1 hm).1 (fun hc => by obtain ⟨cells, h9⟩ := ht mb hc.symm; rw [hm] at h9; cases h9)), h2⟩, ⟨v, ⟨(key _ _ _ hv.blk (by decide)).trans hv.blk, hv.row.of (fun g cur _ hg => key _ _ _ hg (by decide)), hv.lt, Nat.le_trans hv.sz hg.size, hv.len⟩⟩, h.be.trans ⟨hg.os, hg.tape, hg.output, hg.size, fun i hi => hg.block i (by have := h.be.size; omega) (fun hc => by have := hb i hc.symm; omega)⟩, h.ge⟩
set_option maxRecDepth 100000 in
set_option maxHeartbeats 4000000 in
theorem do5 {w0 w : World} {b mb B rb C : Nat} {nx : Int} {M : List En} (h : Bo w0 b mb B rb C nx M w) (hnx : nx ≤ 1000) (k m id n : Int)  : Calls Try.prog 10 #[.pointer (some ⟨b, 0, none⟩), .pointer (some ⟨rb, 0, none⟩), .agg (aO 5 k m id n)] w fun r w' => DoP w0 b mb B rb C nx r w' := by
  have HX0 : Aside0 ((w.alloc (.cells (aO 5 k m id n) 35)).heap[w.heap.size]? = some (.cells (aO 5 k m id n) 35 (0, 0))) := ⟨World.alloc_heap_new _ _⟩
  have HJ0 : Aside0 (Bo w0 b mb B rb C nx M (w.alloc (.cells (aO 5 k m id n) 35))) := ⟨Jp.below h ((Below.refl _ _).alloc (Nat.le_refl _) _)⟩
  have HN := Aside0.mk hnx
  clear h hnx
  go_enter Try.func10, Try.ntmps10
  go_upto_region 1 with fail
  generalize w.alloc (.cells (aO 5 k m id n) 35) = w1 at HX0 HJ0 ⊢
  generalize w.heap.size = g at HX0 ⊢
  obtain ⟨c0, c1, c2, c3, c4⟩ := blkO HX0.out
  have HINC : Aside0 (M.Pairwise (fun x y => x.id < y.id)) := ⟨HJ0.out.ax.inc⟩
  clear c1 c2 c3
  by_cases hlow : n < 1
  · have q1 : decide (n < 1) = true := decide_eq_true hlow
    obtain ⟨L, hL⟩ : ∃ L, L = 1 := ⟨_, rfl⟩
    have HLV : Aside0 (((L : Nat) : Int) = 1) := ⟨by omega⟩
    have HLL : Aside0 (L ≤ 1000) := ⟨by omega⟩
    have HLIM : Aside0 (limN 1 = L) := ⟨by rw [hL]; rfl⟩
    clear hL hlow
    go_upto_region 19 with fail
    have HW0 : Aside0 (∃ n1, WaI w0 b mb B rb C nx M n1 (.slice none 0 0) 0 w1 ∧ w0.heap.size ≤ n1) := ⟨⟨w1.heap.size, ⟨HJ0.out, rfl, World.ownsRow_nil _ _ _ _, Nat.le_refl _⟩, HJ0.out.be.size⟩⟩
    obtain ⟨n1, hw0, hnb⟩ := HW0.out
    replace HW0 := Aside0.mk hw0
    have HNB := Aside0.mk hnb
    clear hw0 hnb HJ0 HX0 c4 c0
    go_wp2
    go_loopw [16, 17] (fun v i wr => ∃ j : Nat, j ≤ L ∧ i = .int .i64 (j : Int) ∧ Aside0 (WaI w0 b mb B rb C nx M n1 v j wr)) (fun _ i _ => L - (intOf i).toNat)
    case atStart => exact ⟨0, Nat.zero_le _, rfl, HW0⟩
    case round =>
      clear HW0
      obtain ⟨j, hjl, rfl, HS⟩ := hrel
      obtain ⟨vr, hvr⟩ := HS.out.1.rl
      obtain ⟨Ar, cr, rfl, _⟩ := hvr.form
      have HVR := Aside0.mk hvr
      have c0 := hvr.cells.1
      obtain ⟨A5, c5, rfl⟩ := own_form HS.out.2.2.1
      clear hvr
      by_cases hgo : j < L ∧ best (leftN j M) ≠ none
      · obtain ⟨x, hb⟩ := Option.ne_none_iff_exists'.1 hgo.2
        have HX := Aside0.mk hb
        have hpos : 0 < (leftN j M).length := List.length_pos_iff.2 (fun hc => by rw [hc] at hb; cases hb)
        have hd1 : decide (((leftN j M).length : Int) > 0) = true := decide_eq_true (by omega)
        have hd2 : decide (0 < (leftN j M).length) = true := decide_eq_true hpos
        have hd3 : decide ((j : Int) < 1) = true := decide_eq_true (by have := HLV.out; omega)
        have HSQ := Aside0.mk (seqN_succ j M x HS.out.2.1 hb)
        have HLT := Aside0.mk (seqN_lt HINC.out HS.out.2.1 hb)
        have HL : Aside0 (j + 1 ≤ L ∧ L ≤ 1000) := ⟨hgo.1, HLL.out⟩
        have hwi : wrap64 ((j : Int) + 1) = (j : Int) + 1 := w64_nat (by have := HLL.out; omega)
        have HHi : Aside0 (L - ((j : Int) + 1).toNat < L - ((j : Int)).toNat) := ⟨meas_nat hgo.1⟩
        clear hb hpos hgo
        go_upto_region 23 with (go_at_call 27; refine (RPop_some HVR.out (leftN_inc j M HINC.out) HX.out).mono ?_; rintro e w3 ⟨rfl, hn⟩; have HN3 := Aside0.mk hn; clear hn)
        have HD3 : Aside0 (Jp w0 b mb B rb C nx M ⟨nx - 1, leftN (j + 1) M⟩ w3 ∧ w3.ownsRow n1 27 2 (.slice A5 j c5) j (fT (seqN j M)) ∧ n1 ≤ w3.heap.size) := ⟨by rw [HSQ.out.2.1]; exact HS.out.1.rn HN3.out, own_far HS.out.2.2.1 HVR.out HN3.out.fr, Nat.le_trans HS.out.2.2.2 HN3.out.fr.size⟩
        have HD4 : Aside0 (Jp w0 b mb B rb C nx M ⟨nx - 1, leftN (j + 1) M⟩ (w3.alloc (.cells (aT x.key x.mark) 27)) ∧ (w3.alloc (.cells (aT x.key x.mark) 27)).ownsRow n1 27 2 (.slice A5 j c5) j (fT (seqN j M)) ∧ n1 ≤ (w3.alloc (.cells (aT x.key x.mark) 27)).heap.size) := ⟨HD3.out.1.below ((Below.refl _ _).alloc (Nat.le_refl _) _), HD3.out.2.1.alloc _, by rw [size_alloc1]; have := HD3.out.2.2; omega⟩
        have hbx : (w3.alloc (.cells (aT x.key x.mark) 27)).heap[w3.heap.size]? = some (.cells (aT x.key x.mark) 27 (0, 0)) := World.alloc_heap_new _ _
        try change Code.wp _ _ _ _ (w3.alloc (.cells (aT x.key x.mark) 27))
        clear HN3 HD3 HVR c0 hd1 hd2
        generalize w3.alloc (.cells (aT x.key x.mark) 27) = w4 at HD4 hbx ⊢
        generalize w3.heap.size = g6 at hbx ⊢
        have x0 : w4.cell? ⟨g6, 0, none⟩ = some (.int .i8 x.key) := by simp only [World.cell?, hbx]; rfl
        have x1 : w4.cell? ⟨g6, 1, none⟩ = some (.int .i64 x.mark) := by simp only [World.cell?, hbx]; rfl
        clear hbx
        have hB5 : Below w4.heap.size w4 (w4.alloc (.cells #[.int .i8 x.key, .int .i64 x.mark] 27)) := (Below.refl _ _).alloc (Nat.le_refl _) _
        obtain ⟨A6, c6, w6, hrun, hown, hgrow⟩ := app27 (HD4.out.2.1.alloc (.cells #[.int .i8 x.key, .int .i64 x.mark] 27)) (Nat.le_trans HD4.out.2.2 hB5.size) (by have := HL.out; omega) x.key x.mark (World.alloc_heap_new w4 (.cells #[.int .i8 x.key, .int .i64 x.mark] 27))
        have HRUN := Aside0.mk hrun
        have HD6 : Aside0 (WaI w0 b mb B rb C nx M n1 (.slice A6 (j + 1) c6) (j + 1) w6) := ⟨by
          refine ⟨?_, HSQ.out.2.2, by rw [HSQ.out.1, fT_snoc]; exact hown, Nat.le_trans HD4.out.2.2 (Nat.le_trans hB5.size hgrow.size)⟩
          exact (HD4.out.1.below hB5).inner hgrow (fun i hi => own_typed (HD4.out.2.1.alloc (.cells #[.int .i8 x.key, .int .i64 x.mark] 27)) i hi) (fun i hi => by have := own_base HD4.out.2.1 hi; exact Nat.le_trans HNB.out this)⟩
        clear hrun hown hgrow hB5
        go_wp2_with ((with_reducible refine gate_builtin (b := .append) rfl ?_); at_builtin; refine app_list _ rfl (.tmp 124) (.tmp 126) 36 rfl (v1 := .slice A5 j c5) (v2 := .slice (some ⟨w4.heap.size, 0, none⟩) 1 1) rfl rfl HRUN.out ?_)
        go_roundw
        case rel => exact ⟨j + 1, HL.out.1, (by first | rfl | (rw [hwi]; rfl)), HD6⟩
        case measure => first | exact HHi.out | (simp only [hwi]; exact HHi.out)
      · have HEND : Aside0 (seqN L M = seqN j M ∧ leftN L M = leftN j M) := ⟨by
          by_cases h1 : j < L
          · have h2 : best (leftN j M) = none := Classical.byContradiction fun hc => hgo ⟨h1, hc⟩
            exact seqN_end j M HS.out.2.1 h2 L hjl
          · have : j = L := by omega
            subst this
            exact ⟨rfl, rfl⟩⟩
        have HSL : Aside0 ((seqN L M).length = j) := ⟨by rw [HEND.out.1]; exact HS.out.2.1⟩
        have HFT : Aside0 (fT (seqN L M) = fT (seqN j M)) := ⟨by rw [HEND.out.1]⟩
        have HJK : Aside0 (j ≤ 100000) := ⟨by have := HLL.out; omega⟩
        by_cases hjL : j < L
        · have h2 : best (leftN j M) = none := Classical.byContradiction fun hc => hgo ⟨hjL, hc⟩
          have hnil : leftN j M = [] := best_none (leftN_inc j M HINC.out) h2
          have hd3 : decide ((j : Int) < 1) = true := decide_eq_true (by have := HLV.out; omega)
          rw [hnil] at c0
          clear h2 hnil hgo
          go_wp2_with (first
            | (go_at_call 11; refine (drain_calls HS.out.1.ax 1).mono ?_; rewrite [HLIM.out]; rintro r w7 ⟨v7, rfl, hr7, hx7, hg7⟩; rw [HSL.out] at hr7; obtain ⟨A7, c7, rfl⟩ := own_form hr7; have H7 := Aside0.mk (And.intro hr7 (And.intro (own_ag HS.out.2.2.1 HS.out.1.ax hg7) (HS.out.1.ag hg7 hx7))); clear hr7 hx7 hg7)
            | (go_at_call 24; refine (Same_n (l1 := seqN L M) (l2 := seqN j M) HSL.out HFT.out H7.out.1 H7.out.2.1 HJK.out).mono ?_; rintro r w8 ⟨rfl, hl8⟩; have H8 := Aside0.mk (H7.out.2.2.below hl8); clear hl8))
          go_ret
          exact ⟨rfl, nx, leftN L M, by omega, by have h9 := H8.out; rw [← HEND.out.2] at h9; exact h9⟩
        · have hd3 : decide ((j : Int) < 1) = false := decide_eq_false (by have := HLV.out; omega)
          clear hgo
          go_wp2_with (first
            | (go_at_call 11; refine (drain_calls HS.out.1.ax 1).mono ?_; rewrite [HLIM.out]; rintro r w7 ⟨v7, rfl, hr7, hx7, hg7⟩; rw [HSL.out] at hr7; obtain ⟨A7, c7, rfl⟩ := own_form hr7; have H7 := Aside0.mk (And.intro hr7 (And.intro (own_ag HS.out.2.2.1 HS.out.1.ax hg7) (HS.out.1.ag hg7 hx7))); clear hr7 hx7 hg7)
            | (go_at_call 24; refine (Same_n (l1 := seqN L M) (l2 := seqN j M) HSL.out HFT.out H7.out.1 H7.out.2.1 HJK.out).mono ?_; rintro r w8 ⟨rfl, hl8⟩; have H8 := Aside0.mk (H7.out.2.2.below hl8); clear hl8))
          go_ret
          exact ⟨rfl, nx, leftN L M, by omega, by have h9 := H8.out; rw [← HEND.out.2] at h9; exact h9⟩
  · have q1 : decide (n < 1) = false := decide_eq_false hlow
    by_cases hbig : n > 60
    · have q2 : decide (n > 60) = true := decide_eq_true hbig
      obtain ⟨L, hL⟩ : ∃ L, L = 1 := ⟨_, rfl⟩
      have HLV : Aside0 (((L : Nat) : Int) = 1) := ⟨by omega⟩
      have HLL : Aside0 (L ≤ 1000) := ⟨by omega⟩
      have HLIM : Aside0 (limN 1 = L) := ⟨by rw [hL]; rfl⟩
      clear hL hlow hbig
      go_upto_region 19 with fail
      have HW0 : Aside0 (∃ n1, WaI w0 b mb B rb C nx M n1 (.slice none 0 0) 0 w1 ∧ w0.heap.size ≤ n1) := ⟨⟨w1.heap.size, ⟨HJ0.out, rfl, World.ownsRow_nil _ _ _ _, Nat.le_refl _⟩, HJ0.out.be.size⟩⟩
      obtain ⟨n1, hw0, hnb⟩ := HW0.out
      replace HW0 := Aside0.mk hw0
      have HNB := Aside0.mk hnb
      clear hw0 hnb HJ0 HX0 c4 c0
      go_wp2
      go_loopw [16, 17] (fun v i wr => ∃ j : Nat, j ≤ L ∧ i = .int .i64 (j : Int) ∧ Aside0 (WaI w0 b mb B rb C nx M n1 v j wr)) (fun _ i _ => L - (intOf i).toNat)
      case atStart => exact ⟨0, Nat.zero_le _, rfl, HW0⟩
      case round =>
        clear HW0
        obtain ⟨j, hjl, rfl, HS⟩ := hrel
        obtain ⟨vr, hvr⟩ := HS.out.1.rl
        obtain ⟨Ar, cr, rfl, _⟩ := hvr.form
        have HVR := Aside0.mk hvr
        have c0 := hvr.cells.1
        obtain ⟨A5, c5, rfl⟩ := own_form HS.out.2.2.1
        clear hvr
        by_cases hgo : j < L ∧ best (leftN j M) ≠ none
        · obtain ⟨x, hb⟩ := Option.ne_none_iff_exists'.1 hgo.2
          have HX := Aside0.mk hb
          have hpos : 0 < (leftN j M).length := List.length_pos_iff.2 (fun hc => by rw [hc] at hb; cases hb)
          have hd1 : decide (((leftN j M).length : Int) > 0) = true := decide_eq_true (by omega)
          have hd2 : decide (0 < (leftN j M).length) = true := decide_eq_true hpos
          have hd3 : decide ((j : Int) < 1) = true := decide_eq_true (by have := HLV.out; omega)
          have HSQ := Aside0.mk (seqN_succ j M x HS.out.2.1 hb)
          have HLT := Aside0.mk (seqN_lt HINC.out HS.out.2.1 hb)
          have HL : Aside0 (j + 1 ≤ L ∧ L ≤ 1000) := ⟨hgo.1, HLL.out⟩
          have hwi : wrap64 ((j : Int) + 1) = (j : Int) + 1 := w64_nat (by have := HLL.out; omega)
          have HHi : Aside0 (L - ((j : Int) + 1).toNat < L - ((j : Int)).toNat) := ⟨meas_nat hgo.1⟩
          clear hb hpos hgo
          go_upto_region 23 with (go_at_call 27; refine (RPop_some HVR.out (leftN_inc j M HINC.out) HX.out).mono ?_; rintro e w3 ⟨rfl, hn⟩; have HN3 := Aside0.mk hn; clear hn)
          have HD3 : Aside0 (Jp w0 b mb B rb C nx M ⟨nx - 1, leftN (j + 1) M⟩ w3 ∧ w3.ownsRow n1 27 2 (.slice A5 j c5) j (fT (seqN j M)) ∧ n1 ≤ w3.heap.size) := ⟨by rw [HSQ.out.2.1]; exact HS.out.1.rn HN3.out, own_far HS.out.2.2.1 HVR.out HN3.out.fr, Nat.le_trans HS.out.2.2.2 HN3.out.fr.size⟩
          have HD4 : Aside0 (Jp w0 b mb B rb C nx M ⟨nx - 1, leftN (j + 1) M⟩ (w3.alloc (.cells (aT x.key x.mark) 27)) ∧ (w3.alloc (.cells (aT x.key x.mark) 27)).ownsRow n1 27 2 (.slice A5 j c5) j (fT (seqN j M)) ∧ n1 ≤ (w3.alloc (.cells (aT x.key x.mark) 27)).heap.size) := ⟨HD3.out.1.below ((Below.refl _ _).alloc (Nat.le_refl _) _), HD3.out.2.1.alloc _, by rw [size_alloc1]; have := HD3.out.2.2; omega⟩
          have hbx : (w3.alloc (.cells (aT x.key x.mark) 27)).heap[w3.heap.size]? = some (.cells (aT x.key x.mark) 27 (0, 0)) := World.alloc_heap_new _ _
          try change Code.wp _ _ _ _ (w3.alloc (.cells (aT x.key x.mark) 27))
          clear HN3 HD3 HVR c0 hd1 hd2
          generalize w3.alloc (.cells (aT x.key x.mark) 27) = w4 at HD4 hbx ⊢
          generalize w3.heap.size = g6 at hbx ⊢
          have x0 : w4.cell? ⟨g6, 0, none⟩ = some (.int .i8 x.key) := by simp only [World.cell?, hbx]; rfl
          have x1 : w4.cell? ⟨g6, 1, none⟩ = some (.int .i64 x.mark) := by simp only [World.cell?, hbx]; rfl
          clear hbx
          have hB5 : Below w4.heap.size w4 (w4.alloc (.cells #[.int .i8 x.key, .int .i64 x.mark] 27)) := (Below.refl _ _).alloc (Nat.le_refl _) _
          obtain ⟨A6, c6, w6, hrun, hown, hgrow⟩ := app27 (HD4.out.2.1.alloc (.cells #[.int .i8 x.key, .int .i64 x.mark] 27)) (Nat.le_trans HD4.out.2.2 hB5.size) (by have := HL.out; omega) x.key x.mark (World.alloc_heap_new w4 (.cells #[.int .i8 x.key, .int .i64 x.mark] 27))
          have HRUN := Aside0.mk hrun
          have HD6 : Aside0 (WaI w0 b mb B rb C nx M n1 (.slice A6 (j + 1) c6) (j + 1) w6) := ⟨by
            refine ⟨?_, HSQ.out.2.2, by rw [HSQ.out.1, fT_snoc]; exact hown, Nat.le_trans HD4.out.2.2 (Nat.le_trans hB5.size hgrow.size)⟩
            exact (HD4.out.1.below hB5).inner hgrow (fun i hi => own_typed (HD4.out.2.1.alloc (.cells #[.int .i8 x.key, .int .i64 x.mark] 27)) i hi) (fun i hi => by have := own_base HD4.out.2.1 hi; exact Nat.le_trans HNB.out this)⟩
          clear hrun hown hgrow hB5
          go_wp2_with ((with_reducible refine gate_builtin (b := .append) rfl ?_); at_builtin; refine app_list _ rfl (.tmp 124) (.tmp 126) 36 rfl (v1 := .slice A5 j c5) (v2 := .slice (some ⟨w4.heap.size, 0, none⟩) 1 1) rfl rfl HRUN.out ?_)
          go_roundw
          case rel => exact ⟨j + 1, HL.out.1, (by first | rfl | (rw [hwi]; rfl)), HD6⟩
          case measure => first | exact HHi.out | (simp only [hwi]; exact HHi.out)
        · have HEND : Aside0 (seqN L M = seqN j M ∧ leftN L M = leftN j M) := ⟨by
            by_cases h1 : j < L
            · have h2 : best (leftN j M) = none := Classical.byContradiction fun hc => hgo ⟨h1, hc⟩
              exact seqN_end j M HS.out.2.1 h2 L hjl
            · have : j = L := by omega
              subst this
              exact ⟨rfl, rfl⟩⟩
          have HSL : Aside0 ((seqN L M).length = j) := ⟨by rw [HEND.out.1]; exact HS.out.2.1⟩
          have HFT : Aside0 (fT (seqN L M) = fT (seqN j M)) := ⟨by rw [HEND.out.1]⟩
          have HJK : Aside0 (j ≤ 100000) := ⟨by have := HLL.out; omega⟩
          by_cases hjL : j < L
          · have h2 : best (leftN j M) = none := Classical.byContradiction fun hc => hgo ⟨hjL, hc⟩
            have hnil : leftN j M = [] := best_none (leftN_inc j M HINC.out) h2
            have hd3 : decide ((j : Int) < 1) = true := decide_eq_true (by have := HLV.out; omega)
            rw [hnil] at c0
            clear h2 hnil hgo
            go_wp2_with (first
              | (go_at_call 11; refine (drain_calls HS.out.1.ax 1).mono ?_; rewrite [HLIM.out]; rintro r w7 ⟨v7, rfl, hr7, hx7, hg7⟩; rw [HSL.out] at hr7; obtain ⟨A7, c7, rfl⟩ := own_form hr7; have H7 := Aside0.mk (And.intro hr7 (And.intro (own_ag HS.out.2.2.1 HS.out.1.ax hg7) (HS.out.1.ag hg7 hx7))); clear hr7 hx7 hg7)
              | (go_at_call 24; refine (Same_n (l1 := seqN L M) (l2 := seqN j M) HSL.out HFT.out H7.out.1 H7.out.2.1 HJK.out).mono ?_; rintro r w8 ⟨rfl, hl8⟩; have H8 := Aside0.mk (H7.out.2.2.below hl8); clear hl8))
            go_ret
            exact ⟨rfl, nx, leftN L M, by omega, by have h9 := H8.out; rw [← HEND.out.2] at h9; exact h9⟩
          · have hd3 : decide ((j : Int) < 1) = false := decide_eq_false (by have := HLV.out; omega)
            clear hgo
            go_wp2_with (first
              | (go_at_call 11; refine (drain_calls HS.out.1.ax 1).mono ?_; rewrite [HLIM.out]; rintro r w7 ⟨v7, rfl, hr7, hx7, hg7⟩; rw [HSL.out] at hr7; obtain ⟨A7, c7, rfl⟩ := own_form hr7; have H7 := Aside0.mk (And.intro hr7 (And.intro (own_ag HS.out.2.2.1 HS.out.1.ax hg7) (HS.out.1.ag hg7 hx7))); clear hr7 hx7 hg7)
              | (go_at_call 24; refine (Same_n (l1 := seqN L M) (l2 := seqN j M) HSL.out HFT.out H7.out.1 H7.out.2.1 HJK.out).mono ?_; rintro r w8 ⟨rfl, hl8⟩; have H8 := Aside0.mk (H7.out.2.2.below hl8); clear hl8))
            go_ret
            exact ⟨rfl, nx, leftN L M, by omega, by have h9 := H8.out; rw [← HEND.out.2] at h9; exact h9⟩
    · have q2 : decide (n > 60) = false := decide_eq_false hbig
      have hlc := limN_in (most := n) (by omega)
      obtain ⟨L, hL⟩ : ∃ L, L = limN n := ⟨_, rfl⟩
      rw [← hL] at hlc
      have HLV : Aside0 (((L : Nat) : Int) = n) := ⟨hlc.1⟩
      have HLL : Aside0 (L ≤ 1000) := ⟨by omega⟩
      have HLIM : Aside0 (limN n = L) := ⟨hL.symm⟩
      clear hL hlow hbig hlc
      go_upto_region 19 with fail
      have HW0 : Aside0 (∃ n1, WaI w0 b mb B rb C nx M n1 (.slice none 0 0) 0 w1 ∧ w0.heap.size ≤ n1) := ⟨⟨w1.heap.size, ⟨HJ0.out, rfl, World.ownsRow_nil _ _ _ _, Nat.le_refl _⟩, HJ0.out.be.size⟩⟩
      obtain ⟨n1, hw0, hnb⟩ := HW0.out
      replace HW0 := Aside0.mk hw0
      have HNB := Aside0.mk hnb
      clear hw0 hnb HJ0 HX0 c4 c0
      go_wp2
      go_loopw [16, 17] (fun v i wr => ∃ j : Nat, j ≤ L ∧ i = .int .i64 (j : Int) ∧ Aside0 (WaI w0 b mb B rb C nx M n1 v j wr)) (fun _ i _ => L - (intOf i).toNat)
      case atStart => exact ⟨0, Nat.zero_le _, rfl, HW0⟩
      case round =>
        clear HW0
        obtain ⟨j, hjl, rfl, HS⟩ := hrel
        obtain ⟨vr, hvr⟩ := HS.out.1.rl
        obtain ⟨Ar, cr, rfl, _⟩ := hvr.form
        have HVR := Aside0.mk hvr
        have c0 := hvr.cells.1
        obtain ⟨A5, c5, rfl⟩ := own_form HS.out.2.2.1
        clear hvr
        by_cases hgo : j < L ∧ best (leftN j M) ≠ none
        · obtain ⟨x, hb⟩ := Option.ne_none_iff_exists'.1 hgo.2
          have HX := Aside0.mk hb
          have hpos : 0 < (leftN j M).length := List.length_pos_iff.2 (fun hc => by rw [hc] at hb; cases hb)
          have hd1 : decide (((leftN j M).length : Int) > 0) = true := decide_eq_true (by omega)
          have hd2 : decide (0 < (leftN j M).length) = true := decide_eq_true hpos
          have hd3 : decide ((j : Int) < n) = true := decide_eq_true (by have := HLV.out; omega)
          have HSQ := Aside0.mk (seqN_succ j M x HS.out.2.1 hb)
          have HLT := Aside0.mk (seqN_lt HINC.out HS.out.2.1 hb)
          have HL : Aside0 (j + 1 ≤ L ∧ L ≤ 1000) := ⟨hgo.1, HLL.out⟩
          have hwi : wrap64 ((j : Int) + 1) = (j : Int) + 1 := w64_nat (by have := HLL.out; omega)
          have HHi : Aside0 (L - ((j : Int) + 1).toNat < L - ((j : Int)).toNat) := ⟨meas_nat hgo.1⟩
          clear hb hpos hgo
          go_upto_region 23 with (go_at_call 27; refine (RPop_some HVR.out (leftN_inc j M HINC.out) HX.out).mono ?_; rintro e w3 ⟨rfl, hn⟩; have HN3 := Aside0.mk hn; clear hn)
          have HD3 : Aside0 (Jp w0 b mb B rb C nx M ⟨nx - 1, leftN (j + 1) M⟩ w3 ∧ w3.ownsRow n1 27 2 (.slice A5 j c5) j (fT (seqN j M)) ∧ n1 ≤ w3.heap.size) := ⟨by rw [HSQ.out.2.1]; exact HS.out.1.rn HN3.out, own_far HS.out.2.2.1 HVR.out HN3.out.fr, Nat.le_trans HS.out.2.2.2 HN3.out.fr.size⟩
          have HD4 : Aside0 (Jp w0 b mb B rb C nx M ⟨nx - 1, leftN (j + 1) M⟩ (w3.alloc (.cells (aT x.key x.mark) 27)) ∧ (w3.alloc (.cells (aT x.key x.mark) 27)).ownsRow n1 27 2 (.slice A5 j c5) j (fT (seqN j M)) ∧ n1 ≤ (w3.alloc (.cells (aT x.key x.mark) 27)).heap.size) := ⟨HD3.out.1.below ((Below.refl _ _).alloc (Nat.le_refl _) _), HD3.out.2.1.alloc _, by rw [size_alloc1]; have := HD3.out.2.2; omega⟩
          have hbx : (w3.alloc (.cells (aT x.key x.mark) 27)).heap[w3.heap.size]? = some (.cells (aT x.key x.mark) 27 (0, 0)) := World.alloc_heap_new _ _
          try change Code.wp _ _ _ _ (w3.alloc (.cells (aT x.key x.mark) 27))
          clear HN3 HD3 HVR c0 hd1 hd2
          generalize w3.alloc (.cells (aT x.key x.mark) 27) = w4 at HD4 hbx ⊢
          generalize w3.heap.size = g6 at hbx ⊢
          have x0 : w4.cell? ⟨g6, 0, none⟩ = some (.int .i8 x.key) := by simp only [World.cell?, hbx]; rfl
          have x1 : w4.cell? ⟨g6, 1, none⟩ = some (.int .i64 x.mark) := by simp only [World.cell?, hbx]; rfl
          clear hbx
          have hB5 : Below w4.heap.size w4 (w4.alloc (.cells #[.int .i8 x.key, .int .i64 x.mark] 27)) := (Below.refl _ _).alloc (Nat.le_refl _) _
          obtain ⟨A6, c6, w6, hrun, hown, hgrow⟩ := app27 (HD4.out.2.1.alloc (.cells #[.int .i8 x.key, .int .i64 x.mark] 27)) (Nat.le_trans HD4.out.2.2 hB5.size) (by have := HL.out; omega) x.key x.mark (World.alloc_heap_new w4 (.cells #[.int .i8 x.key, .int .i64 x.mark] 27))
          have HRUN := Aside0.mk hrun
          have HD6 : Aside0 (WaI w0 b mb B rb C nx M n1 (.slice A6 (j + 1) c6) (j + 1) w6) := ⟨by
            refine ⟨?_, HSQ.out.2.2, by rw [HSQ.out.1, fT_snoc]; exact hown, Nat.le_trans HD4.out.2.2 (Nat.le_trans hB5.size hgrow.size)⟩
            exact (HD4.out.1.below hB5).inner hgrow (fun i hi => own_typed (HD4.out.2.1.alloc (.cells #[.int .i8 x.key, .int .i64 x.mark] 27)) i hi) (fun i hi => by have := own_base HD4.out.2.1 hi; exact Nat.le_trans HNB.out this)⟩
          clear hrun hown hgrow hB5
          go_wp2_with ((with_reducible refine gate_builtin (b := .append) rfl ?_); at_builtin; refine app_list _ rfl (.tmp 124) (.tmp 126) 36 rfl (v1 := .slice A5 j c5) (v2 := .slice (some ⟨w4.heap.size, 0, none⟩) 1 1) rfl rfl HRUN.out ?_)
          go_roundw
          case rel => exact ⟨j + 1, HL.out.1, (by first | rfl | (rw [hwi]; rfl)), HD6⟩
          case measure => first | exact HHi.out | (simp only [hwi]; exact HHi.out)
        · have HEND : Aside0 (seqN L M = seqN j M ∧ leftN L M = leftN j M) := ⟨by
            by_cases h1 : j < L
            · have h2 : best (leftN j M) = none := Classical.byContradiction fun hc => hgo ⟨h1, hc⟩
              exact seqN_end j M HS.out.2.1 h2 L hjl
            · have : j = L := by omega
              subst this
              exact ⟨rfl, rfl⟩⟩
          have HSL : Aside0 ((seqN L M).length = j) := ⟨by rw [HEND.out.1]; exact HS.out.2.1⟩
          have HFT : Aside0 (fT (seqN L M) = fT (seqN j M)) := ⟨by rw [HEND.out.1]⟩
          have HJK : Aside0 (j ≤ 100000) := ⟨by have := HLL.out; omega⟩
          by_cases hjL : j < L
          · have h2 : best (leftN j M) = none := Classical.byContradiction fun hc => hgo ⟨hjL, hc⟩
            have hnil : leftN j M = [] := best_none (leftN_inc j M HINC.out) h2
            have hd3 : decide ((j : Int) < n) = true := decide_eq_true (by have := HLV.out; omega)
            rw [hnil] at c0
            clear h2 hnil hgo
            go_wp2_with (first
              | (go_at_call 11; refine (drain_calls HS.out.1.ax n).mono ?_; rewrite [HLIM.out]; rintro r w7 ⟨v7, rfl, hr7, hx7, hg7⟩; rw [HSL.out] at hr7; obtain ⟨A7, c7, rfl⟩ := own_form hr7; have H7 := Aside0.mk (And.intro hr7 (And.intro (own_ag HS.out.2.2.1 HS.out.1.ax hg7) (HS.out.1.ag hg7 hx7))); clear hr7 hx7 hg7)
              | (go_at_call 24; refine (Same_n (l1 := seqN L M) (l2 := seqN j M) HSL.out HFT.out H7.out.1 H7.out.2.1 HJK.out).mono ?_; rintro r w8 ⟨rfl, hl8⟩; have H8 := Aside0.mk (H7.out.2.2.below hl8); clear hl8))
            go_ret
            exact ⟨rfl, nx, leftN L M, by omega, by have h9 := H8.out; rw [← HEND.out.2] at h9; exact h9⟩
          · have hd3 : decide ((j : Int) < n) = false := decide_eq_false (by have := HLV.out; omega)
            clear hgo
            go_wp2_with (first
              | (go_at_call 11; refine (drain_calls HS.out.1.ax n).mono ?_; rewrite [HLIM.out]; rintro r w7 ⟨v7, rfl, hr7, hx7, hg7⟩; rw [HSL.out] at hr7; obtain ⟨A7, c7, rfl⟩ := own_form hr7; have H7 := Aside0.mk (And.intro hr7 (And.intro (own_ag HS.out.2.2.1 HS.out.1.ax hg7) (HS.out.1.ag hg7 hx7))); clear hr7 hx7 hg7)
              | (go_at_call 24; refine (Same_n (l1 := seqN L M) (l2 := seqN j M) HSL.out HFT.out H7.out.1 H7.out.2.1 HJK.out).mono ?_; rintro r w8 ⟨rfl, hl8⟩; have H8 := Aside0.mk (H7.out.2.2.below hl8); clear hl8))
            go_ret
            exact ⟨rfl, nx, leftN L M, by omega, by have h9 := H8.out; rw [← HEND.out.2] at h9; exact h9⟩
theorem do_calls {w0 w : World} {b mb B rb C : Nat} {nx : Int} {M : List En} (h : Bo w0 b mb B rb C nx M w) (hnx : nx ≤ 1000) (kd k m id n : Int) (hid : (Lit.int .i64 id).wf = true) : Calls Try.prog 10 #[.pointer (some ⟨b, 0, none⟩), .pointer (some ⟨rb, 0, none⟩), .agg (aO kd k m id n)] w fun r w' => DoP w0 b mb B rb C nx r w' := by
  by_cases h1 : kd = 1
  · subst h1; exact do1 h hnx k m id n
  by_cases h2 : kd = 2
  · subst h2; exact do2 h hnx k m id n
  by_cases h3 : kd = 3
  · subst h3; exact do3 h hnx k m id n hid
  by_cases h4 : kd = 4
  · subst h4; exact do4 h hnx k m id n hid
  by_cases h5 : kd = 5
  · subst h5; exact do5 h hnx k m id n
  exact do0 h hnx kd k m id n h1 h2 h3 h4 h5
end Go.Proofs.Ythjppjcmapgkpaa.QAg
