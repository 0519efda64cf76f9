/- Agenda: the document's at, Get, Push, Set, Drop. Written by a program of this repo (tools/gen_ag10.py). -/
import Derived.Test.YthjppjcmapgkpaaDDAg
namespace Go.Proofs.Ythjppjcmapgkpaa.QAg
open Go.RowKit Go.Proofs.YthjppjcmapgkpaaW.PrintWords Go.Proofs.YthjppjcmapgkpaaW.PrintLast Go.Proofs.YthjppjcmapgkpaaW.PrintMore
set_option linter.unusedVariables false
set_option linter.unusedSimpArgs false
theorem RL.msgAt {w : World} {rb B n c g o : Nat} {r : RS} (h : RL w rb B r (.slice (some ⟨g, o, none⟩) n c)) {i : Nat} {m : En} (hm : r.L[i]? = some m) :
    (w.cell? ⟨g, o + i * 3, none⟩ = some (.int .i8 m.key) ∧ w.cell? ⟨g, o + i * 3 + 1, none⟩ = some (.int .i64 m.mark) ∧ w.cell? ⟨g, o + i * 3 + 2, none⟩ = some (.int .i64 m.id)) := by
  obtain ⟨g', o', hA, hh⟩ := h.msg hm
  injection hA with hA
  injection hA with h1 h2
  subst h1 h2
  exact hh
theorem Rb.head {w0 w : World} {rb B : Nat} {r : RS} {v : Value} {L : List (Nat × Obj)} {g : Nat} {C C' : Array Value} {t : TypeId} (h : Rb w0 rb B r v ((g, .cells C t) :: L) w) (hL : ∀ p ∈ L, p.1 ≠ g) (o : Nat) (vs : List Value) (hC : QAg.setAll C o vs = C') : Rb w0 rb B r v ((g, .cells C' t) :: L) (w.setCells g o vs) := by
  refine h.box g C t List.mem_cons_self o vs (fun p hp => ?_)
  rcases List.mem_cons.1 hp with rfl | hp
  · exact Or.inl (by rw [hC])
  · exact Or.inr ⟨List.mem_cons_of_mem _ hp, hL p hp⟩
/-- A part of an element is written. -/
theorem RowQ.part {w : World} {B : Nat} {e : TypeId} {sz n g o cap : Nat} {xs : List Value} {cur : Array Value} (hc : 0 < cap) (hB : B ≤ g) (hw : w.heap[g]? = some (.cells cur e (0, 0))) (hn : n ≤ cap) (hs : o + cap * sz ≤ cur.size)
    (hq : ∀ j u, xs[j]? = some u → cur[o + j]? = some u) (p : Nat) (vs : List Value) (hp : p + vs.length ≤ cap * sz) (ys : List Value) (hy : ys.length = n * sz)
    (h1 : ∀ j, j < vs.length → ys[p + j]? = vs[j]?) (h2 : ∀ j, j < p ∨ p + vs.length ≤ j → ys[j]? = xs[j]?) :
    RowQ (w.setCells g (o + p) vs) B e sz (.slice (some ⟨g, o, none⟩) n cap) n ys := by
  refine ⟨hy, Or.inr ⟨g, o, cap, _, rfl, hc, hB, blk_setCells vs (o + p) cur w hw, hn, by rw [size_setAll]; exact hs, fun j u hj => ?_⟩⟩
  rw [get_setAll _ _ _ _ (by omega)]
  by_cases hin : p ≤ j ∧ j < p + vs.length
  · rw [if_pos (by omega)]
    have := h1 (j - p) (by omega)
    rw [show p + (j - p) = j by omega] at this
    rw [show o + j - (o + p) = j - p by omega, ← this, hj]
  · rw [if_neg (by omega)]
    exact hq j u (by rw [← h2 j (by omega)]; exact hj)
/-- What a call of the document's agenda makes of it. -/
structure Rn (rb B : Nat) (r : RS) (w w' : World) : Prop where
  rl : ∃ v, RL w' rb B r v
  fr : Far rb rb w w'
theorem Rb.done {w0 w : World} {rb B : Nat} {r : RS} {v : Value} {L : List (Nat × Obj)} (h : Rb w0 rb B r v L w) : Rn rb B r w0 w := ⟨⟨v, h.rl⟩, h.fr⟩
theorem Fnd.atM {M : List En} {k : Int} {res : Int} (h : Fnd M (fun m => m.id = k) res) : (∃ (i : Nat) (x : En), res = (i : Int) ∧ M[i]? = some x ∧ QAg.atM M k = some x) ∨ (res = -1 ∧ QAg.atM M k = none) := by
  rcases h with ⟨i, hi, rfl, ⟨m, hm, hp⟩, hn⟩ | ⟨rfl, hn⟩
  · refine Or.inl ⟨i, m, rfl, hm, ?_⟩
    unfold QAg.atM
    rw [List.find?_eq_some_iff_getElem]
    refine ⟨by simpa using hp, i, hi, (List.getElem?_eq_some_iff.1 hm).2, fun j hj => ?_⟩
    have := hn j _ hj (List.getElem?_eq_getElem (by omega))
    simpa using this
  · refine Or.inr ⟨rfl, ?_⟩
    unfold QAg.atM
    rw [List.find?_eq_none]
    intro x hx
    obtain ⟨j, hj⟩ := List.getElem?_of_mem hx
    have := hn j x hj
    simpa using this
def AtE (r : RS) (id : Int) (w : World) (e : Ending) (w' : World) : Prop := ∃ res : Int, e = .returned (.int .i64 res) ∧ Fnd r.L (fun m => m.id = id) res ∧ w' = w
set_option maxRecDepth 100000 in
set_option maxHeartbeats 4000000 in
theorem at_calls {w : World} {rb B : Nat} {r : RS} {v : Value} (h : RL w rb B r v) (id : Int) : Calls Try.prog 43 #[.pointer (some ⟨rb, 0, none⟩), .int .i64 id] w fun e w' => AtE r id w e w' := by
  obtain ⟨A, c, rfl, hc⟩ := h.form
  have HLEN := Aside0.mk h.len
  have HA := Aside0.mk h
  clear h hc
  go_enter Try.func43, Try.ntmps43
  go_wp2
  have HQ0 : Aside0 (∀ (k : Nat) m, k < 0 → r.L[k]? = some m → ¬ (fun m : En => m.id = id) m) := ⟨fun k m hk => by omega⟩
  go_loopw [5] (fun i wr => ∃ i0 : Nat, i0 ≤ r.L.length ∧ i = .int .i64 (i0 : Int) ∧ wr = w ∧ Aside0 (∀ (k : Nat) m, k < i0 → r.L[k]? = some m → ¬ (fun m : En => m.id = id) m)) (fun i _ => r.L.length - (intOf i).toNat)
  case atStart => exact ⟨0, Nat.zero_le _, rfl, rfl, HQ0⟩
  case round =>
    clear HQ0
    obtain ⟨i, hil, rfl, hw, HS⟩ := hrel
    subst hw
    obtain ⟨c0, c1⟩ := HA.out.cells
    clear c1
    by_cases hlt : i < r.L.length
    · have x1 : decide ((i : Int) < (r.L.length : Int)) = true := decide_eq_true (Int.ofNat_lt.2 hlt)
      have x1' : decide (i < r.L.length) = true := decide_eq_true hlt
      have b1 : (0 : Int) ≤ (i : Int) := Int.natCast_nonneg i
      have b2 : (i : Int) < (r.L.length : Int) := Int.ofNat_lt.2 hlt
      have ht : ((i : Int)).toNat = i := Int.toNat_natCast i
      have hwi : wrap64 ((i : Int) + 1) = (i : Int) + 1 := w64_nat (Nat.lt_of_lt_of_le hlt (Nat.le_trans HLEN.out (by decide)))
      have HHi : Aside0 (r.L.length - ((i : Int) + 1).toNat < r.L.length - ((i : Int)).toNat) := ⟨meas_nat hlt⟩
      have HL : Aside0 (i + 1 ≤ r.L.length) := ⟨hlt⟩
      have HE : Aside0 (r.L[i]? = some r.L[i]) := ⟨List.getElem?_eq_getElem hlt⟩
      obtain ⟨gT, oT, rfl, m0, m1, m2⟩ := HA.out.msg HE.out
      generalize r.L[i] = m at HE m0 m1 m2
      clear m0 m1
      by_cases h1 : m.id = id
      · have k1 : (m.id == id) = true := by simp [h1]
        have HP := Aside0.mk h1
        clear h1
        go_wp2
        go_ret
        exact ⟨_, rfl, Or.inl ⟨i, HL.out, rfl, ⟨m, HE.out, HP.out⟩, HS.out⟩, rfl⟩
      · have k1 : (m.id == id) = false := by simp [h1]
        have HN := Aside0.mk h1
        clear h1
        go_wp2
        go_roundw
        case rel => exact ⟨i + 1, HL.out, (by first | rfl | (rw [hwi]; rfl)), (by first | rfl | trivial), ⟨no_step HS.out HE.out (fun hp => HN.out hp)⟩⟩
        case measure => first | exact HHi.out | (simp only [hwi]; exact HHi.out)
    · have x1 : decide ((i : Int) < (r.L.length : Int)) = false := decide_eq_false (by omega)
      have x1' : decide (i < r.L.length) = false := decide_eq_false hlt
      have HZ : Aside0 (r.L.length ≤ i) := ⟨by omega⟩
      clear hlt
      go_wp2
      go_ret
      exact ⟨_, rfl, Or.inr ⟨rfl, no_end HS.out HZ.out⟩, rfl⟩
set_option maxRecDepth 100000 in
set_option maxHeartbeats 4000000 in
theorem RGet_calls {w : World} {rb B : Nat} {r : RS} {v : Value} (h : RL w rb B r v) (id : Int) : Calls Try.prog 22 #[.pointer (some ⟨rb, 0, none⟩), .int .i64 id] w fun e w' =>
    ((∃ x, atM r.L id = some x ∧ e = .returned (.tuple #[.agg (aT x.key x.mark), .bool true])) ∨ (atM r.L id = none ∧ e = .returned (.tuple #[.agg (aT 0 0), .bool false]))) ∧ Below w.heap.size w w' := by
  obtain ⟨A, c, rfl, hc⟩ := h.form
  have HB0 := Aside0.mk ((Rb.start h).alloc (.cells (aT 0 0) 27))
  have HLEN := Aside0.mk h.len
  have HW0 : Aside0 (Below w.heap.size w (w.alloc (.cells (aT 0 0) 27))) := ⟨(Below.refl _ _).alloc (Nat.le_refl _) _⟩
  have HBX : Aside0 ((w.alloc (.cells (aT 0 0) 27)).heap[w.heap.size]? = some (.cells (aT 0 0) 27 (0, 0))) := ⟨World.alloc_heap_new _ _⟩
  clear h hc
  go_enter Try.func22, Try.ntmps22
  go_upto_region 1 with fail
  generalize w.alloc (.cells (aT 0 0) 27) = w1 at HB0 HW0 HBX ⊢
  go_upto_region 2 with (go_at_call 43; refine (at_calls HB0.out.rl id).mono ?_; rintro e w2 ⟨res, rfl, hf, hw2⟩; replace hw2 := hw2.symm; subst hw2; have HF := Aside0.mk hf.atM; clear hf)
  rcases HF.out with ⟨i, m, rfl, hm, ha⟩ | ⟨rfl, ha⟩
  · have b1 : (0 : Int) ≤ (i : Int) := Int.natCast_nonneg i
    have b2 : (i : Int) < (r.L.length : Int) := Int.ofNat_lt.2 (List.getElem?_eq_some_iff.1 hm).1
    have b3 : decide ((i : Int) < 0) = false := decide_eq_false (by omega)
    have ht : ((i : Int)).toNat = i := Int.toNat_natCast i
    have HE := Aside0.mk (And.intro hm ha)
    clear hm ha
    obtain ⟨gT, oT, rfl, m0, m1, m2⟩ := HB0.out.rl.msg HE.out.1
    have c0 := HB0.out.rl.cells.1
    clear m2
    go_wp2_with ((with_reducible refine gate_store (t := 27) (p := 4) rfl ?_); refine store_blk rfl 27 (.tmp 4) (.tmp 20) rfl w.heap.size 0 (aT m.key m.mark) (aT 0 0) 27 rfl rfl HBX.out (by simp) (by kernel_rfl) (by simp [Value.oneCell']) ?_; intro w9 hw9 hb9; have HS : Aside0 (w9.heap[w.heap.size]? = some (.cells (aT m.key m.mark) 27 (0, 0)) ∧ Below w.heap.size w w9) := ⟨hb9, by rw [hw9]; exact below_setCells (Nat.le_refl _) _ _ _ HW0.out⟩; clear hw9 hb9)
    exact bodyPost_ret (res_ct (t := 27) rfl rfl rfl HS.out.1 Try.underlying27 rfl (by kernel_rfl)) rfl ⟨Or.inl ⟨m, HE.out.2, rfl⟩, HS.out.2⟩
  · have HE := Aside0.mk ha
    clear ha
    go_wp2_with ((with_reducible refine gate_store (t := 27) (p := 4) rfl ?_); refine store_blk rfl 27 (.tmp 4) (.tmp 12) rfl w.heap.size 0 (aT 0 0) (aT 0 0) 27 rfl rfl HBX.out (by simp) (by kernel_rfl) (by simp [Value.oneCell']) ?_; intro w9 hw9 hb9; have HS : Aside0 (w9.heap[w.heap.size]? = some (.cells (aT 0 0) 27 (0, 0)) ∧ Below w.heap.size w w9) := ⟨hb9, by rw [hw9]; exact below_setCells (Nat.le_refl _) _ _ _ HW0.out⟩; clear hw9 hb9)
    exact bodyPost_ret (res_ct (t := 27) rfl rfl rfl HS.out.1 Try.underlying27 rfl (by kernel_rfl)) rfl ⟨Or.inr ⟨HE.out, rfl⟩, HS.out.2⟩
set_option maxRecDepth 100000 in
set_option maxHeartbeats 4000000 in
theorem RSet_calls {w : World} {rb B : Nat} {r : RS} {v : Value} (h : RL w rb B r v) (id k m : Int) : Calls Try.prog 28 #[.pointer (some ⟨rb, 0, none⟩), .int .i64 id, .agg (aT k m)] w fun e w' =>
    (∃ (i : Nat) (x : En), r.L[i]? = some x ∧ atM r.L id = some x ∧ e = .returned (.int .i64 0) ∧ Rn rb B { r with L := r.L.set i (newE x k m) } w w') ∨ (atM r.L id = none ∧ e = .returned (.int .i64 90) ∧ Rn rb B r w w') := by
  obtain ⟨A, c, rfl, hc⟩ := h.form
  have HB0 := Aside0.mk ((Rb.start h).alloc (.cells (aT k m) 27))
  have HLEN := Aside0.mk h.len
  obtain ⟨i0, hi0, hz0, hz1, hz2⟩ := info_parts info40
  have HI0 := Aside0.mk (And.intro hi0 (And.intro hz0 (And.intro hz1 hz2)))
  clear hi0 hz0 hz1 hz2
  have HSW : Aside0 (w.heap.size < (w.alloc (.cells (aT k m) 27)).heap.size) := ⟨by rw [size_alloc1]; omega⟩
  clear h hc
  go_enter Try.func28, Try.ntmps28
  go_upto_region 1 with fail
  generalize w.alloc (.cells (aT k m) 27) = w1 at HB0 HSW ⊢
  go_upto_region 2 with (go_at_call 43; refine (at_calls HB0.out.rl id).mono ?_; rintro e w2 ⟨res, rfl, hf, hw2⟩; replace hw2 := hw2.symm; subst hw2; have HF := Aside0.mk hf.atM; clear hf)
  rcases HF.out with ⟨i, x, rfl, hm, ha⟩ | ⟨rfl, ha⟩
  · have b1 : (0 : Int) ≤ (i : Int) := Int.natCast_nonneg i
    have b2 : (i : Int) < (r.L.length : Int) := Int.ofNat_lt.2 (List.getElem?_eq_some_iff.1 hm).1
    have b3 : decide ((i : Int) < 0) = false := decide_eq_false (by omega)
    have ht : ((i : Int)).toNat = i := Int.toNat_natCast i
    have HE := Aside0.mk (And.intro hm ha)
    have HIL : Aside0 (i < r.L.length) := ⟨(List.getElem?_eq_some_iff.1 hm).1⟩
    clear hm ha
    go_upto_region 4 with fail
    have HB1 := Aside0.mk (HB0.out.alloc (.cells #[] 40))
    have HS1 : Aside0 (Below w1.heap.size w1 (w1.alloc (.cells #[] 40))) := ⟨(Below.refl _ _).alloc (Nat.le_refl _) _⟩
    have c0 := HB1.out.rl.cells.1
    obtain ⟨v2, w3, hrun, hrow, hgr⟩ := run_copy (P := Try.prog) (w1.alloc (.cells #[] 40)) 30 30 40 i0 _ 3 24 Try.underlying30 HI0.out.1 HI0.out.2.1 HI0.out.2.2.1 HI0.out.2.2.2 rfl (by decide) ⟨w1.heap.size, 0, none⟩ A r.L.length c (fM r.L) (fM_len _) HB1.out.rl.row.src (by have := HLEN.out; unfold maxLen; omega) (by have := HLEN.out; omega)
    obtain ⟨A2, cap, rfl, hc2⟩ := hrow.form
    have HRUN := Aside0.mk hrun
    have HROW := Aside0.mk hrow
    have HB3 := Aside0.mk ((HB0.out.below HS1.out).below (grown_below hgr))
    have HS3 : Aside0 (w1.heap.size ≤ (w1.alloc (.cells #[] 40)).heap.size) := ⟨HS1.out.size⟩
    clear hrun hrow hgr HB1 hc2
    go_upto_region 5 with (first | ((with_reducible refine gate_builtin (b := .append) rfl ?_); at_builtin; refine app_list _ rfl (.tmp 14) (.tmp 18) 30 rfl rfl rfl HRUN.out ?_))
    clear c0
    generalize (w1.alloc (.cells #[] 40)).heap.size = B' at HROW HS3
    have HBB : Aside0 (w.heap.size < B' ∧ B ≤ B' ∧ rb < B') := ⟨by have := HSW.out; have := HS3.out; omega, by have := HB0.out.rl.sz; have := HS3.out; omega, by have := HB0.out.rl.rb; have := HS3.out; omega⟩
    obtain ⟨gT, oT, cap0, cur, hv, y1, y2, y3, y4, y5⟩ := HROW.out.lies (Nat.lt_of_le_of_lt (Nat.zero_le _) HIL.out)
    injection hv with e1 e2 e3
    subst e1 e3
    have HGT : Aside0 (B' ≤ gT ∧ gT < w3.heap.size) := ⟨y1, (Array.getElem?_eq_some_iff.1 y2).1⟩
    have z0 : w3.cell? ⟨w.heap.size, 0, none⟩ = some (.int .i8 k) := (HB3.out.ptr (g := w.heap.size) (C := aT k m) (t := 27) (by simp) 0).1
    have z1 : w3.cell? ⟨w.heap.size, 1, none⟩ = some (.int .i64 m) := (HB3.out.ptr (g := w.heap.size) (C := aT k m) (t := 27) (by simp) 1).1
    have HTH : Aside0 (w3.there gT (oT + i * 3) 2) := ⟨by have := there_of_block y2 (oT + i * 3) 2 (by have := HIL.out; omega); exact this⟩
    have HSET : Aside0 (RowQ (w3.setCells gT (oT + i * 3) (aT k m).toList) B' 40 3 (.slice (some ⟨gT, oT, none⟩) r.L.length cap) r.L.length (fM (r.L.set i (newE x k m)))) := ⟨by
      have hil := HIL.out
      refine RowQ.part (by omega) y1 y2 y3 y4 y5 (i * 3) (aT k m).toList (by simp; omega) _ (by rw [fM_len, List.length_set]) (fun j hj => ?_) (fun j hj => ?_)
      · have hj2 : j < 2 := hj
        rw [fM_get (r.L.set i (newE x k m)) i _ (by rw [List.getElem?_set_self hil]) j (by omega), ← Array.getElem?_toList]
        match j, hj2 with
        | 0, _ => rfl
        | 1, _ => rfl
      · have hj2 : j < i * 3 ∨ i * 3 + 2 ≤ j := hj
        by_cases hj3 : j = i * 3 + 2
        · rw [hj3, fM_get (r.L.set i (newE x k m)) i _ (by rw [List.getElem?_set_self hil]) 2 (by omega), fM_get _ i x HE.out.1 2 (by omega)]
          rfl
        · exact fM_other _ _ _ _ (by omega)⟩
    clear y1 y2 y3 y4 y5
    go_upto_region 6 with ((with_reducible refine gate_store (t := 27) (p := 24) rfl ?_); refine wpList_store_mid rfl 27 (.tmp 24) (.tmp 22) rfl gT (oT + i * 3) (aT k m) rfl rfl HTH.out (by kernel_rfl) (by simp [Value.oneCell']) ?_)
    have hobj := HB3.out.rl.blk
    have hne : rb ≠ gT := by have := HGT.out.1; have := HBB.out.2.2; omega
    have HB5 : Aside0 (Rb w rb B r (.slice A r.L.length c) [] (w3.setCells gT (oT + i * 3) (aT k m).toList)) := ⟨⟨⟨(far_setCells hne _ _ _).trans hobj, HB3.out.rl.row.off (fun g2 o2 n2 cap2 hv2 hc2 hc3 => by
      have hr0 := HB0.out.rl.row
      rw [hv2] at hr0
      have hlt2 := (hr0.at hc2).1
      have := HGT.out.1
      have := HS3.out
      omega) _ _, HB3.out.rl.lt, by rw [(os_setCells _ _ _).2.2.2]; exact HB3.out.rl.sz, HB3.out.rl.len⟩, HB3.out.fr.setCells' (by have := HGT.out.1; have := HBB.out.1; omega) _ _, HB3.out.hb, fun p hp => by cases hp⟩⟩
    clear hobj hne z0 z1 HTH
    generalize w3.setCells gT (oT + i * 3) (aT k m).toList = w4 at HSET HB5 ⊢
    have d0 := HB5.out.rl.cells.1
    have g0 := HB5.out.rl.frozen 0
    go_wp2
    go_ret
    refine Or.inl ⟨i, x, HE.out.1, HE.out.2, rfl, (HB5.out.setL (l := r.L.set i (newE x k m)) (by rw [List.length_set]; exact HSET.out) HBB.out.2.1 (by rw [List.length_set]; exact HLEN.out) (L' := []) (fun p hp => by cases hp)).done⟩
  · have HE := Aside0.mk ha
    clear ha
    go_wp2
    go_ret
    exact Or.inr ⟨HE.out, rfl, HB0.out.done⟩
end Go.Proofs.Ythjppjcmapgkpaa.QAg
