/- Lane: VLn, XLn, YLn, RLn joined. -/
import Derived.Test.YtglekbbdbnpohaaMLn
import Derived.RangeFuncNested
import Derived.RangeFuncBound
import Derived.RangeFuncCalls
import Derived.RangeFuncLeaves
import Derived.Shelf.Abstract
import Derived.Shelf.RegionOpen
import Derived.OwnWalkIn
import Derived.TacticsInMore
import Derived.LoopNIn
import Derived.LoopIn
import Derived.RangeFuncBox
import Derived.Maps.AppendAt
import Derived.Shelf.SlSortCmp.NoneTotal
import Derived.Shelf.Lay
import Derived.Ground.SlsfProg
import Derived.Lib.OwnBridge
import Derived.Laws.CopyOwn
import Derived.Laws.MakeOwn
/- Lane: maps.Keys and its iterator, slices.AppendSeq and Collect, at numbers. -/
namespace Go.Proofs.Ytglekbbdbnpohaa.QLn
open Go.RowKit Go.Maps Go.Proofs.YtglekbbdbnpohaaW.PrintWords Go.Proofs.YtglekbbdbnpohaaW.PrintLast Go.Proofs.YtglekbbdbnpohaaW.PrintMore
set_option linter.unusedVariables false
set_option linter.unusedSimpArgs false
attribute [local go_sem] Oper.semAt_some
/-- What has come, and what is still to come, are together the list. -/
def Coll (L : List (Int × Past)) (left : Lit → Bool) (ss : List Int) : Prop := (ss ++ (L.filter (fun x => left (.int .u64 x.1))).map Prod.fst).Perm (L.map Prod.fst)
theorem coll_start {D : DataW Past} {L : List (Int × Past)} (h : Lst D L) : Coll L (has D) [] := by
  unfold Coll
  rw [List.nil_append, List.filter_eq_self.2 (fun x hx => h.hasKey hx)]
theorem filt_strike : ∀ (L : List (Int × Past)) (left : Lit → Bool) (k : Int) (c : Past), (L.map Prod.fst).Nodup → (k, c) ∈ L → left (.int .u64 k) = true →
    ((L.filter (fun x => left (.int .u64 x.1))).map Prod.fst).Perm (k :: (L.filter (fun x => left (.int .u64 x.1) && !(Lit.int .u64 x.1).sameKey (.int .u64 k))).map Prod.fst)
  | [], _, _, _, _, h, _ => by simp at h
  | x :: L, left, k, c, hn, hm, hl => by
    rw [List.map_cons, List.nodup_cons] at hn
    by_cases e : x.1 = k
    · have hno : ∀ y ∈ L, (Lit.int .u64 y.1).sameKey (.int .u64 k) = false := fun y hy => by
        cases hh : (Lit.int .u64 y.1).sameKey (.int .u64 k) with
        | false => rfl
        | true => exact absurd (List.mem_map.2 ⟨y, hy, ((same_iff _ _).1 hh).trans e.symm⟩) hn.1
      have e2 : L.filter (fun x => left (.int .u64 x.1) && !(Lit.int .u64 x.1).sameKey (.int .u64 k)) = L.filter (fun x => left (.int .u64 x.1)) :=
        List.filter_congr (fun y hy => by rw [hno y hy]; simp)
      rw [List.filter_cons_of_pos (by rw [e]; exact hl), List.filter_cons_of_neg (by simp only [e, (same_iff k k).2 rfl]; simp), e2, List.map_cons, e]
    · have hm' : (k, c) ∈ L := by
        rcases List.mem_cons.1 hm with e1 | m1
        · exact absurd (by rw [← e1]) e
        · exact m1
      have ih := filt_strike L left k c hn.2 hm' hl
      have hk : (Lit.int .u64 x.1).sameKey (.int .u64 k) = false := by
        cases hh : (Lit.int .u64 x.1).sameKey (.int .u64 k) with
        | false => rfl
        | true => exact absurd ((same_iff _ _).1 hh) e
      by_cases h4 : left (.int .u64 x.1) = true
      · rw [List.filter_cons_of_pos (p := fun x : Int × Past => left (.int .u64 x.1)) h4, List.filter_cons_of_pos (by simp only [hk]; simpa using h4), List.map_cons, List.map_cons]
        exact (ih.cons _).trans (List.Perm.swap _ _ _)
      · rw [List.filter_cons_of_neg (p := fun x : Int × Past => left (.int .u64 x.1)) h4, List.filter_cons_of_neg (by simp only [hk]; simpa using h4)]
        exact ih
theorem coll_step {L : List (Int × Past)} {left : Lit → Bool} {ss : List Int} {k : Int} {c : Past} (h : Coll L left ss) (hn : (L.map Prod.fst).Nodup) (hm : (k, c) ∈ L) (hl : left (.int .u64 k) = true) :
    Coll L (fun z => left z && !z.sameKey (.int .u64 k)) (ss ++ [k]) ∧ ss.length < L.length := by
  unfold Coll at h ⊢
  have h1 := filt_strike L left k c hn hm hl
  have h2 := (h1.append_left ss).symm.trans h
  refine ⟨by rw [List.append_assoc]; exact h2, ?_⟩
  have h3 := h2.length_eq
  simp at h3
  omega
theorem coll_end {L : List (Int × Past)} {left : Lit → Bool} {ss : List Int} (h : Coll L left ss) (hl : ∀ k, left k = false) : ss.Perm (L.map Prod.fst) := by
  unfold Coll at h
  rw [List.filter_eq_nil_iff.2 (fun x _ => by rw [hl]; simp), List.map_nil, List.append_nil] at h
  exact h
set_option maxRecDepth 100000 in
set_option maxHeartbeats 2000000 in
theorem keys48_in (k0 l Bn b n : Nat) (D : DataW Past) (L : List (Int × Past)) (hL : Lst D L) (W : World) (hBn : W.cell? ⟨Bn, 0, none⟩ = some (.map (some b))) (hown : W.ownsMap Try.prog 22 Rp b n D)
    (J Jx : List Int → World → Prop) (hJ : AbidesFrom W.heap.size J) (h0 : J [] W)
    (hY : ∀ (pre : List Int) (x : Int) W1, J pre W1 → pre.length < L.length → YieldAt Fence.wide k0 Try.prog l #[.int .u64 x] W1 fun e W' => (e = .returned (.bool true) ∧ J (pre ++ [x]) W' ∧ KeepsWalks W1 W') ∨ (e = .returned (.bool false) ∧ Jx (pre ++ [x]) W')) :
    Calls Try.prog 48 #[.func (.yield l) #[] #[], .pointer (some ⟨Bn, 0, none⟩)] W fun e W' => (∃ v, e = .returned v) ∧ ((∃ ys, ys.Perm (L.map Prod.fst) ∧ J ys W') ∨ (∃ pre, True ∧ Jx pre W')) := by
  have HY := Aside0.mk hY
  have HL := Aside0.mk hL
  have HJ := Aside0.mk (And.intro hJ h0)
  clear hY h0 hL hJ
  go_enter Try.func48, Try.ntmps48
  go_wp2_with (first | (at_range; refine wpList_range_own _ rfl _ 65 rfl 22 79 keyed Try.underlying65 Rp b n D rfl hown ?_; intro w0 hrg0 hg0 hs0; have HRG0 := Aside0.mk (And.intro hrg0 (And.intro hg0 hs0)); clear hrg0 hg0 hs0))
  go_frame
  go_loopw [3] (fun _ wr => ∃ (left : Lit → Bool) (c : Nat) (ss : List Int), Aside0 (wr.ranges Try.prog 22 Rp b W.heap.size n D left c ∧ Coll L left ss ∧ J ss wr)) (fun _ wr => wr.rangeLeft b W.heap.size)
  case atStart => exact ⟨_, _, [], ⟨HRG0.out.1, coll_start HL.out, HJ.out.1 [] W w0 none HJ.out.2 HRG0.out.2.1 (fun r e => by cases e)⟩⟩
  case round =>
    clear HRG0
    obtain ⟨left, c, ss, HR⟩ := hrel
    have hrg := HR.out.1
    go_wp2_with (first | (at_next; refine wpList_next_ranges _ rfl _ rfl 22 keyed Rp (Value.int .u64) Past.v (fun key kl hk => by obtain ⟨x, hx, _⟩ := Go.Maps.keyOf_int_inv Try.underlying22 hk; exact ⟨x, hx⟩) (fun v y hv => by obtain ⟨p, hp, _⟩ := Rp_inv hv; exact ⟨p, hp⟩) b W.heap.size n _ _ _ rfl hrg ?_ ?_))
    · intro hc0 hl0
      have HEND := Aside0.mk (coll_end HR.out.2.1 hl0)
      clear hl0 hc0
      go_wp2
      go_end0
      exact ⟨⟨_, rfl⟩, .inl ⟨ss, HEND.out, HR.out.2.2⟩⟩
    · intro x c1 kl yd yp w2 cnt2 hkey hlk hv hat hrg2 hlt hg2 hs2 hen
      obtain ⟨x', ex, rfl, _⟩ := Go.Maps.keyOf_int_inv Try.underlying22 hkey
      have exx : x = x' := by injection ex
      subst exx
      have hmem : (x, c1) ∈ L := HL.out.memAt (fun zd => by have := hat zd; rw [Rp_v] at hv; cases hv; exact this)
      have hnd : (L.map Prod.fst).Nodup := by obtain ⟨_, _, _, hn⟩ := HL.out; exact hn
      have HST := Aside0.mk (coll_step HR.out.2.1 hnd hmem hlk)
      have HJ2 : Aside0 (J ss w2) := ⟨HJ.out.1 ss wr w2 (some W.heap.size) HR.out.2.2 hg2 (fun r e => by cases e; exact ⟨Nat.le_refl _, hrg.iter_walk⟩)⟩
      have HRG2 := Aside0.mk hrg2
      have HLT := Aside0.mk hlt
      clear hs2 hg2 hkey hlk hv hat hmem hnd hrg2 hlt ex
      go_upto_region 3 with fail
      refine (wpIn_wide (n := k0 + 1)).1 ?_
      obtain ⟨fn, tmps, assign, body, hy, hR⟩ := HY.out ss x w2 HJ2.out HST.out.2
      gi_wp2
      refine hR.mono ?_
      clear hR hy
      rintro e3 W4 (⟨rfl, hJ4, hk4⟩ | ⟨rfl, hJx⟩)
      · have hrg4 := HRG2.out.of_walks hk4
        have HJ4 := Aside0.mk hJ4
        clear hJ4 hk4
        gi_wp2
        go_wp2
        go_roundw
        case rel => exact ⟨_, cnt2, ss ++ [x], ⟨hrg4, HST.out.1, HJ4.out⟩⟩
        case measure => rw [hrg4.left_eq, hrg.left_eq]; exact HLT.out
      · have HJX := Aside0.mk hJx
        clear hJx
        gi_wp2
        go_wp2
        (try simp only [Exit.inBlock, Exit.then])
        refine bodyPost_ret (results_none rfl _ _ _) rfl ?_
        exact ⟨⟨_, rfl⟩, .inr ⟨_, trivial, HJX.out⟩⟩
theorem keys_seq (k0 Bn b n : Nat) (D : DataW Past) (L : List (Int × Past)) (hL : Lst D L) (W : World) (hBn : W.cell? ⟨Bn, 0, none⟩ = some (.map (some b))) (hown : W.ownsMap Try.prog 22 Rp b n D) :
    SeqStopsK Fence.wide (k0 + 1) Try.prog 48 #[.pointer (some ⟨Bn, 0, none⟩)] (fun x : Int => #[Value.int .u64 x]) KeepsWalks (fun l => l.Perm (L.map Prod.fst)) (fun _ => True) L.length W := by
  intro l J Jx W' hb hJ hJx hY h0
  refine callsIn_wide.2 ?_
  exact keys48_in k0 l Bn b n D L hL W' (pw_cell_below hb hBn) (ownsMap_of hown (hb.block _ hown.lt)) J Jx hJ h0 hY
set_option maxRecDepth 100000 in
theorem keys_calls (mb : Nat) (w : World) : Calls Try.prog 38 #[.map (some mb)] w fun e w' => e = .returned (.func (.func 48) #[] #[.pointer (some ⟨w.heap.size, 0, none⟩)]) ∧ w' = w.alloc (.cells #[.map (some mb)] 65) := by
  go_enter Try.func38, Try.ntmps38
  go_wp2
  go_ret
  exact ⟨rfl, rfl⟩
end Go.Proofs.Ytglekbbdbnpohaa.QLn
/- Lane: slices.AppendSeq and Collect, at numbers. -/
namespace Go.Proofs.Ytglekbbdbnpohaa.QLn
open Go.RowKit Go.Maps Go.Proofs.YtglekbbdbnpohaaW.PrintWords Go.Proofs.YtglekbbdbnpohaaW.PrintLast Go.Proofs.YtglekbbdbnpohaaW.PrintMore
set_option linter.unusedVariables false
set_option linter.unusedSimpArgs false
attribute [local go_sem] Oper.semAt_some
theorem info22 : (Try.prog.info? 22).map (fun i => (i.zero, i.size, i.bytes)) = some (some (.int .u64 0), 1, 8) := by kernel_rfl
set_option maxRecDepth 100000 in
set_option maxHeartbeats 2000000 in
theorem appendSeq_calls (Bn b n : Nat) (D : DataW Past) (L : List (Int × Past)) (hL : Lst D L) (hlen : L.length < 1000000) (w : World) (hBn : w.cell? ⟨Bn, 0, none⟩ = some (.map (some b))) (hown : w.ownsMap Try.prog 22 Rp b n D) :
    Calls Try.prog 51 #[.slice none 0 0, .func (.func 48) #[] #[.pointer (some ⟨Bn, 0, none⟩)]] w fun e w' => ∃ (v : Value) (ss : List Int), e = .returned v ∧ ss.Perm (L.map Prod.fst) ∧ w'.ownsRow w.heap.size 22 1 v ss.length (ss.map (Value.int .u64)) ∧ Below w.heap.size w w' := by
  have HL := Aside0.mk hL
  have HLEN := Aside0.mk hlen
  have HB0 : Aside0 (Below w.heap.size w (w.alloc (.cells #[.slice none 0 0] 85))) := ⟨(Below.refl _ w).alloc (Nat.le_refl _) _⟩
  have HM : Aside0 ((w.alloc (.cells #[.slice none 0 0] 85)).cell? ⟨Bn, 0, none⟩ = some (.map (some b)) ∧ (w.alloc (.cells #[.slice none 0 0] 85)).ownsMap Try.prog 22 Rp b n D) := ⟨pw_cell_below HB0.out hBn, hown.alloc _⟩
  have HX : Aside0 (Boxed (w.alloc (.cells #[.slice none 0 0] 85)) w.heap.size 85 (.slice none 0 0)) := ⟨Boxed.new w 85 (.slice none 0 0)⟩
  have HSZ : Aside0 ((w.alloc (.cells #[.slice none 0 0] 85)).heap.size = w.heap.size + 1) := ⟨World.size_alloc _ _⟩
  clear hL hlen hBn hown
  refine (callsIn_wide (n := 3)).1 ?_
  refine callsIn_of_wp_marks Try.func51 rfl trivial ?_ rfl
  simp only [Try.ntmps51, List.size_toArray, List.length_cons, List.length_nil, Nat.reduceAdd, Nat.reduceSub, Array.replicate_succ, Array.replicate_zero, List.push_toArray, List.append_toArray, List.nil_append, List.cons_append]
  gi_wp2
  generalize w.alloc (.cells #[.slice none 0 0] 85) = W0 at HB0 HM HX HSZ ⊢
  obtain ⟨i0, hi, hz0, hz1, hz2⟩ := info_parts info22
  have hsz := HSZ.out
  refine wpIn_rangeFunc_ownG (F := Fence.wide) (n := 3) (by rfl) (by decide) (gf := 48) (lb := #[.pointer (some ⟨Bn, 0, none⟩)]) (by rfl) (by trivial) (enters_of Try.func48 (by kernel_rfl) rfl)
    (keys_seq 1 Bn b n D L HL.out W0 HM.out.1 HM.out.2) walksK_t walksK_b (Below.refl _ _) (fun _ => rfl)
    (fun (pre : List Int) W => (∃ v, Boxed W w.heap.size 85 v ∧ W.ownsRow w.heap.size 22 1 v pre.length (pre.map (Value.int .u64)) ∧ True) ∧ Below w.heap.size w W)
    (fun _ _ _ => False)
    (OwnFrom.and (Own.from (holdsRow_own w.heap.size w.heap.size 85 22 1 (fun pre : List Int => pre.length) (fun pre : List Int => pre.map (Value.int .u64)) (fun (_ : List Int) _ => True)) _) (ownFrom_below (Nat.le_refl _) (by omega)))
    (fun _ _ _ _ _ hs _ _ => hs)
    ⟨⟨_, HX.out, World.ownsRow_nil _ _ _ _, trivial⟩, HB0.out⟩
    (fun (x : Int) => { tmps := #[Value.slice none 0 0, Value.func (Fn.func 48) #[] #[Value.pointer (some { block := Bn, off := 0 })],
          Value.pointer (some { block := w.heap.size, off := 0 }), undef, Value.slice none 0 0, .int .u64 x,
          Value.func (Fn.func 48) #[] #[Value.pointer (some { block := Bn, off := 0 })], .int .u64 x, undef, undef, undef,
          undef, undef], defers := [] }) ?assign ?body ?done ?stop
  case assign =>
    intro l x W K hK
    gi_wp2
    exact hK
  case body =>
    rintro lp pre x W ⟨⟨v, hv, hrow, _⟩, hB⟩ hlt
    have hc := hv.cell
    have hf := hv.frozen
    have HIN := Aside0.mk (And.intro hrow (And.intro hv hB))
    have HI := Aside0.mk (And.intro hi (And.intro hz0 (And.intro hz1 hz2)))
    have hns : w.heap.size ≤ W.heap.size := hB.size
    have HLT := Aside0.mk hlt
    have hl0 : pre.length < 1000000 := by have := HLEN.out; omega
    clear hv hrow hB hi hz0 hz1 hz2 hlt
    gi_wp2_with (gi_at_builtin; go_loud (refine wpListIn_append_own _ rfl _ _ 85 rfl w.heap.size 22 i0 _ 1 8 Try.underlying85 HI.out.1 HI.out.2.1 HI.out.2.2.1 HI.out.2.2.2 rfl (by decide) _ _ _ rfl (HIN.out.1.alloc _) _ 1 1 [.int .u64 x] rfl rfl (cell_one_new _ _ _) (by intro u hu; simp only [List.mem_cons, List.not_mem_nil, or_false] at hu; rcases hu with rfl; rfl) (by unfold maxLen; omega) (by omega) (by simp; omega) ?_); intro v' w1 hown' hgrow _; obtain ⟨g', cap', rfl⟩ := ownsRow_succ hown'; obtain ⟨hv1, hv2, hr2, hk2, hb2⟩ := HIN.out.2.1.appended (by decide) HIN.out.1 hns (Nat.le_refl _) hown' hgrow; have hc1 := hv1.cell; have hf1 := hv1.frozen; have HZ2 := Aside0.mk (And.intro hv2 (And.intro hr2 (And.intro hk2 hb2))); clear hv1 hv2 hr2 hk2 hb2 hown' hgrow)
    exact ⟨HZ2.out.2.2.1.from _, HZ2.out.2.2.1.walks, ⟨⟨_, HZ2.out.1, by rw [List.length_append, List.map_append]; exact HZ2.out.2.1, trivial⟩, HIN.out.2.2.trans HZ2.out.2.2.2⟩⟩
  case done =>
    rintro D ys W hD hS ⟨⟨v, hv, hrow, _⟩, hB⟩ hK
    have hc := hv.cell
    gi_wp2
    refine ⟨by simp, .inl ⟨_, _, rfl, run_takeDeferred hK, ?_⟩⟩
    have hb : Below w.heap.size w (W.putObj D (Obj.deferred none)) := hB.trans (belowK_b (w := W0) (by omega) W D _ _ hD hK rfl rfl)
    refine ⟨_, results_tmp rfl _ _ _, v, ys, rfl, hS, own_move hrow (fun k hk => ?_), hb⟩
    obtain ⟨cells, hcl⟩ := own_typed hrow k hk
    exact World.putObj_heap_other (fun e => by subst e; rw [hK] at hcl; cases hcl)
  case stop =>
    rintro D c pre W _ _ h _
    exact h.elim
set_option maxRecDepth 100000 in
theorem collect_calls (Bn b n : Nat) (D : DataW Past) (L : List (Int × Past)) (hL : Lst D L) (hlen : L.length < 1000000) (w : World) (hBn : w.cell? ⟨Bn, 0, none⟩ = some (.map (some b))) (hown : w.ownsMap Try.prog 22 Rp b n D) :
    Calls Try.prog 46 #[.func (.func 48) #[] #[.pointer (some ⟨Bn, 0, none⟩)]] w fun e w' => ∃ (v : Value) (ss : List Int), e = .returned v ∧ ss.Perm (L.map Prod.fst) ∧ w'.ownsRow w.heap.size 22 1 v ss.length (ss.map (Value.int .u64)) ∧ Below w.heap.size w w' := by
  go_enter Try.func46, Try.ntmps46
  go_wp2_with (go_at_call 51; refine (appendSeq_calls Bn b n D L hL hlen _ hBn hown).mono ?_; rintro e1 w1 ⟨v, ss, rfl, h1, h2, h3⟩; have HX := Aside0.mk (And.intro h1 (And.intro h2 h3)); clear h1 h2 h3)
  go_ret
  exact ⟨v, ss, rfl, HX.out⟩
end Go.Proofs.Ytglekbbdbnpohaa.QLn
/- Lane: cmp.Compare, the closure of Reset, slices.SortFunc by its contract. -/
namespace Go.Proofs
open Go.Shelf Go.RowKit Go.Lib Go.Sort
shelf_lay_g SlLaysF.n6 Slsf 6 at Try 47 as Try.sortU
end Go.Proofs
namespace Go.Proofs.Ytglekbbdbnpohaa.QLn
open Go.Shelf Go.RowKit Go.Sort Go.Proofs.YtglekbbdbnpohaaW.PrintWords Go.Proofs.YtglekbbdbnpohaaW.PrintLast Go.Proofs.YtglekbbdbnpohaaW.PrintMore
set_option linter.unusedVariables false
set_option linter.unusedSimpArgs false
def cmpN (p q : Int) : Int := if p < q then -1 else if q < p then 1 else 0
theorem nan_calls (x : Int) (w : World) : Calls Try.prog 49 #[.int .u64 x] w fun e w' => e = .returned (.bool false) ∧ w' = w := by
  go_enter Try.func49, Try.ntmps49
  go_wp2
  go_ret
  exact ⟨by simp, rfl⟩
theorem compare_calls (x y : Int) (w : World) : Calls Try.prog 40 #[.int .u64 x, .int .u64 y] w fun e w' => e = .returned (.int .i64 (cmpN x y)) ∧ w' = w := by
  by_cases h1 : x < y
  · have d1 : decide (x < y) = true := decide_eq_true h1
    have HF : Aside0 (cmpN x y = -1) := ⟨by unfold cmpN; rw [if_pos h1]⟩
    go_enter Try.func40, Try.ntmps40
    go_wp2_with (first | (go_at_call 49; refine (nan_calls _ _).mono ?_; rintro e1 w1 ⟨rfl, rfl⟩))
    go_ret
    rw [HF.out]
    exact ⟨rfl, rfl⟩
  · by_cases h2 : y < x
    · have d1 : decide (x < y) = false := decide_eq_false h1
      have d2 : decide (y < x) = true := decide_eq_true h2
      have d3 : decide (x > y) = true := decide_eq_true h2
      have HF : Aside0 (cmpN x y = 1) := ⟨by unfold cmpN; rw [if_neg h1, if_pos h2]⟩
      go_enter Try.func40, Try.ntmps40
      go_wp2_with (first | (go_at_call 49; refine (nan_calls _ _).mono ?_; rintro e1 w1 ⟨rfl, rfl⟩))
      go_ret
      rw [HF.out]
      exact ⟨rfl, rfl⟩
    · have d1 : decide (x < y) = false := decide_eq_false h1
      have d2 : decide (y < x) = false := decide_eq_false h2
      have d3 : decide (x > y) = false := decide_eq_false h2
      have HF : Aside0 (cmpN x y = 0) := ⟨by unfold cmpN; rw [if_neg h1, if_neg h2]⟩
      go_enter Try.func40, Try.ntmps40
      go_wp2_with (first | (go_at_call 49; refine (nan_calls _ _).mono ?_; rintro e1 w1 ⟨rfl, rfl⟩))
      go_ret
      rw [HF.out]
      exact ⟨rfl, rfl⟩
def dist (base x : Int) : Int := IntKind.u64.wrap (x - base)
theorem clo_calls (Bl b : Nat) (base x y : Int) (w : World) (h1 : w.cell? ⟨Bl, 0, none⟩ = some (.pointer (some ⟨b, 0, none⟩))) (h2 : w.cell? ⟨b, 324, none⟩ = some (.int .u64 base)) :
    Calls Try.prog 39 #[.int .u64 x, .int .u64 y, .pointer (some ⟨Bl, 0, none⟩)] w fun e w' => e = .returned (.int .i64 (cmpN (dist base x) (dist base y))) ∧ ∃ nd, w' = w.drewN nd := by
  have HC : Aside0 (∀ w, Calls Try.prog 40 #[.int .u64 (IntKind.u64.wrap (x - base)), .int .u64 (IntKind.u64.wrap (y - base))] w fun e w' => e = .returned (.int .i64 (cmpN (dist base x) (dist base y))) ∧ ∃ nd, w' = w.drewN nd) :=
    ⟨fun w => (compare_calls _ _ w).mono (fun e w' h => ⟨h.1, 0, h.2⟩)⟩
  go_enter Try.func39, Try.ntmps39
  go_upto_region 1 with fail
  go_quiet (first | (go_at_call 40; refine (HC.out _).mono ?_; rintro e w' ⟨rfl, ⟨nd, rfl⟩⟩; (try first | exact ⟨rfl, _, World.drewN_drewN _ _ _⟩ | exact ⟨rfl, _, Eq.trans (World.drewN_drewN _ _ _) (congrArg (World.drewN _) (Nat.add_assoc _ _ _))⟩)))
  go_wp2
  go_ret
  exact ⟨rfl, nq, rfl⟩
/-! ### The order -/
abbrev U : Type := {x : Int // U64 x}
instance : Inhabited U := ⟨⟨0, by unfold U64; omega⟩⟩
def encU (x : U) : Value := .int .u64 x.1
theorem one_enc : OneCell encU := fun x => rfl
def cfU (base : Int) (x y : U) : Int := cmpN (dist base x.1) (dist base y.1)
theorem lt_cf (base : Int) (x y : U) : ltOf (cfU base) x y = true ↔ dist base x.1 < dist base y.1 := by
  unfold ltOf cfU cmpN
  rw [decide_eq_true_iff]
  split
  · rename_i h; simp [h]
  · rename_i h
    split
    · simp [h]
    · simp [h]
theorem lt_cf_false (base : Int) (x y : U) : ltOf (cfU base) x y = false ↔ ¬ dist base x.1 < dist base y.1 := by
  rw [← lt_cf]; simp
theorem swo_cf (base : Int) : SWO (ltOf (cfU base)) where
  irrefl x := by rw [lt_cf_false]; omega
  trans x y z h1 h2 := by rw [lt_cf] at *; omega
  ntrans x y z h1 h2 := by rw [lt_cf_false] at *; omega
theorem tot_cf {base : Int} (hb : U64 base) (x y : U) (h1 : ltOf (cfU base) x y = false) (h2 : ltOf (cfU base) y x = false) : x = y := by
  rw [lt_cf_false] at *
  have hx := x.2
  have hy := y.2
  apply Subtype.ext
  unfold dist at *
  rw [IntKind.wrap_u64, IntKind.wrap_u64] at *
  unfold U64 at *
  omega
theorem sort_far {w : World} {blk m : Nat} {dk : Array U} {os : Array Obj} {k : Nat} {o : Obj} (hk : k ≠ blk) (h : w.heap[k]? = some o) : (sortWorld encU w blk 0 m dk os).heap[k]? = some o := by
  have hlt := (Array.getElem?_eq_some_iff.1 h).1
  unfold sortWorld
  simp only [grow]
  rw [Array.getElem?_append_left (by simp [putRow, mapBlock, Sort.ahead]; omega)]
  simp only [putRow, mapBlock, Sort.ahead, Array.getElem?_modify]
  rw [if_neg (Ne.symm hk)]
  exact h
theorem cmpLays (base : Int) (b Bl blk size : Nat) (w : World) (h1 : w.heap[Bl]? = some (.cells #[.pointer (some ⟨b, 0, none⟩)] 25 (0, 0))) (hb : ∃ A, w.heap[b]? = some (.cells A 67 (0, 0)) ∧ A[324]? = some (.int .u64 base)) (hne1 : Bl ≠ blk) (hne2 : b ≠ blk) :
    CmpLays1 Try.prog 39 #[.pointer (some ⟨Bl, 0, none⟩)] encU (cfU base) blk 0 size w := fun m os dk _ x y => by
  obtain ⟨A, hA, hA2⟩ := hb
  have e1 := sort_far (m := m) (dk := dk) (os := os) hne1 h1
  have e2 := sort_far (m := m) (dk := dk) (os := os) hne2 hA
  refine (clo_calls Bl b base x.1 y.1 _ (by simp only [World.cell?, e1]; rfl) (by simp only [World.cell?, e2]; exact hA2)).mono ?_
  rintro e w' ⟨rfl, nd, rfl⟩
  exact ⟨rfl, nd, #[], by rw [grow_empty]⟩
def srtU (base : Int) (ss : List U) : List U := ss.mergeSort fun x y => !(ltOf (cfU base) y x)
theorem own_grow {w : World} {os : Array Obj} {base : Nat} {e : TypeId} {size n : Nat} {v : Value} {xs : List Value} (h : w.ownsRow base e size v n xs) : (grow w os).ownsRow base e size v n xs :=
  own_move h (fun k hk => by
    obtain ⟨cells, hc⟩ := own_typed h k hk
    have := (Array.getElem?_eq_some_iff.1 hc).1
    simp only [grow]
    exact Array.getElem?_append_left this)
theorem sort_calls (base : Int) (b Bl B0 : Nat) (ss : List U) (v : Value) (w : World) (hown : w.ownsRow B0 22 1 v ss.length (ss.map encU)) (h1 : w.heap[Bl]? = some (.cells #[.pointer (some ⟨b, 0, none⟩)] 25 (0, 0)))
    (hb : ∃ A, w.heap[b]? = some (.cells A 67 (0, 0)) ∧ A[324]? = some (.int .u64 base)) (hn1 : Bl < B0) (hn2 : b < B0) (hbase : U64 base) (hlen : ss.length < 1000000) (hB0 : B0 ≤ w.heap.size) :
    Calls Try.prog 47 #[v, .func (.func 39) #[] #[.pointer (some ⟨Bl, 0, none⟩)]] w fun e w' => e = .returned (.tuple #[]) ∧ w'.ownsRow B0 22 1 v ss.length ((srtU base ss).map encU) ∧ Below B0 w w' := by
  by_cases hv : v = .slice none 0 0
  · subst hv
    have h0 : ss.length = 0 := by
      rcases hown.2 with ⟨_, h⟩ | ⟨g, cap, cur, e, _⟩
      · exact h
      · cases e
    have hnil : ss = [] := List.eq_nil_of_length_eq_zero h0
    subst hnil
    have hcon := AnyF.slices_SortFunc_none { Try.sortU with } none 0 (.func (.func 39) #[] #[.pointer (some ⟨Bl, 0, none⟩)]) w
    change Calls Try.prog 47 _ _ _ at hcon
    refine hcon.mono ?_
    rintro e w' ⟨rfl, rfl⟩
    exact ⟨rfl, by simpa [srtU] using hown, Below.refl _ _⟩
  · obtain ⟨g, cap, rfl, hbg, hgl, hnc, hcm, _, hH⟩ := Lib.holds_of_ownsRow hown hv
    have eg : ∀ args w, (callFunc 39 args).run Try.prog w = .ok (.enter 39 args) w := enters_of Try.func39 (by kernel_rfl) rfl
    have hcon := Any.slices_SortFunc_total Try.sortU encU one_enc (cfU base) (swo_cf base) 39 #[.pointer (some ⟨Bl, 0, none⟩)] g 0 cap ss.toArray w eg (cmpLays base b Bl g _ w h1 hb (by omega) (by omega)) hH hgl (by simp; omega) (tot_cf hbase)
    change Calls Try.prog 47 _ _ _ at hcon
    simp only [List.size_toArray] at hcon
    refine hcon.mono ?_
    rintro e w' ⟨rfl, n, os, rfl⟩
    have hl : (srtU base ss).length = ss.length := List.length_mergeSort ss
    refine ⟨rfl, ?_, ?_⟩
    · unfold sortWorld
      have h2 := Lib.ownsRow_putRow (q := n) hown hl (Nat.le_refl _)
      rw [List.take_of_length_le (by rw [hl]; exact Nat.le_refl _)] at h2
      exact own_grow h2
    · unfold sortWorld
      have h3 := Lib.below_putRow (enc := encU) (q := n) (d := (srtU base ss).toArray) (Below.refl B0 w) hbg
      refine ⟨h3.os, h3.tape, h3.output, ?_, fun k hk => ?_⟩
      · have := h3.size
        simp only [grow, Array.size_append]
        exact Nat.le_trans this (Nat.le_add_right _ _)
      · rw [← h3.block k hk]
        simp only [grow]
        exact Array.getElem?_append_left (by simp [putRow, mapBlock, Sort.ahead]; omega)
section
variable {α : Type} (lt : α → α → Prop)
theorem strict_ext (irr : ∀ x, ¬ lt x x) (tr : ∀ x y z, lt x y → lt y z → lt x z) : ∀ l1 l2 : List α, l1.Pairwise lt → l2.Pairwise lt → (∀ x, x ∈ l1 ↔ x ∈ l2) → l1 = l2
  | [], [], _, _, _ => rfl
  | [], b :: t2, _, _, h => absurd ((h b).2 List.mem_cons_self) (by simp)
  | a :: t1, [], _, _, h => absurd ((h a).1 List.mem_cons_self) (by simp)
  | a :: t1, b :: t2, h1, h2, h => by
    rw [List.pairwise_cons] at h1 h2
    have e : a = b := by
      rcases List.mem_cons.1 ((h a).1 List.mem_cons_self) with e | ha
      · exact e
      · rcases List.mem_cons.1 ((h b).2 List.mem_cons_self) with e | hb
        · exact e.symm
        · exact absurd (tr _ _ _ (h1.1 b hb) (h2.1 a ha)) (irr a)
    subst e
    rw [strict_ext irr tr t1 t2 h1.2 h2.2 (fun x => ?_)]
    constructor
    · intro hx
      rcases List.mem_cons.1 ((h x).1 (List.mem_cons_of_mem _ hx)) with e | hx'
      · subst e; exact absurd (h1.1 x hx) (irr x)
      · exact hx'
    · intro hx
      rcases List.mem_cons.1 ((h x).2 (List.mem_cons_of_mem _ hx)) with e | hx'
      · subst e; exact absurd (h2.1 x hx) (irr x)
      · exact hx'
end
theorem srt_eq {base : Int} (hb : U64 base) (ss ks : List U) (hp : ss.Perm ks) (hk : ks.Pairwise (fun x y => dist base x.1 < dist base y.1)) : srtU base ss = ks := by
  have hnd : ks.Nodup := hk.imp (fun {x y} h e => by subst e; omega)
  have hnd2 : (srtU base ss).Nodup := ((List.mergeSort_perm ss _).trans hp).nodup_iff.2 hnd
  have hs : (srtU base ss).Pairwise (fun x y => (!(ltOf (cfU base) y x)) = true) := by
    refine List.pairwise_mergeSort (le := fun x y => !(ltOf (cfU base) y x)) ?_ ?_ ss
    · intro x y z h1 h2
      have a : ¬ dist base y.1 < dist base x.1 := (lt_cf_false base y x).1 (by simpa using h1)
      have b : ¬ dist base z.1 < dist base y.1 := (lt_cf_false base z y).1 (by simpa using h2)
      have : ltOf (cfU base) z x = false := (lt_cf_false base z x).2 (by omega)
      simp [this]
    · intro x y
      by_cases h : dist base y.1 < dist base x.1
      · have : ltOf (cfU base) x y = false := (lt_cf_false base x y).2 (by omega)
        simp [this]
      · have : ltOf (cfU base) y x = false := (lt_cf_false base y x).2 h
        simp [this]
  refine strict_ext (fun x y : U => dist base x.1 < dist base y.1) (fun x => by omega) (fun x y z h1 h2 => by omega) _ _ ?_ hk (fun x => ((List.mergeSort_perm ss _).trans hp).mem_iff)
  refine (hs.and hnd2).imp (fun {x y} h => ?_)
  have a : ltOf (cfU base) y x = false := by simpa using h.1
  rcases Int.lt_or_le (dist base x.1) (dist base y.1) with h3 | h3
  · exact h3
  · exact absurd (tot_cf hb x y ((lt_cf_false base x y).2 (by omega)) a) h.2
def toU (l : List Int) (h : ∀ x ∈ l, U64 x) : List U := l.pmap (fun x hx => ⟨x, hx⟩) h
theorem toU_enc (l : List Int) (h : ∀ x ∈ l, U64 x) : (toU l h).map encU = l.map (Value.int .u64) := by
  unfold toU
  induction l with
  | nil => rfl
  | cons x l ih => rw [List.pmap_cons, List.map_cons, List.map_cons, ih (fun y hy => h y (List.mem_cons_of_mem _ hy))]; rfl
set_option maxRecDepth 100000 in
theorem sortedFunc_calls (base : Int) (b Bl Bn mb n : Nat) (D : DataW Past) (L : List (Int × Past)) (hL : Lst D L) (hlen : L.length < 1000000) (hu : ∀ x ∈ L, U64 x.1) (hs : L.Pairwise (fun x y => dist base x.1 < dist base y.1)) (hbase : U64 base)
    (w : World) (hBn : w.cell? ⟨Bn, 0, none⟩ = some (.map (some mb))) (hown : w.ownsMap Try.prog 22 Rp mb n D) (h1 : w.heap[Bl]? = some (.cells #[.pointer (some ⟨b, 0, none⟩)] 25 (0, 0))) (hb : ∃ A, w.heap[b]? = some (.cells A 67 (0, 0)) ∧ A[324]? = some (.int .u64 base)) :
    Calls Try.prog 37 #[.func (.func 48) #[] #[.pointer (some ⟨Bn, 0, none⟩)], .func (.func 39) #[] #[.pointer (some ⟨Bl, 0, none⟩)]] w fun e w' =>
      ∃ v, e = .returned v ∧ w'.ownsRow w.heap.size 22 1 v L.length (L.map (fun x => Value.int .u64 x.1)) ∧ Below w.heap.size w w' := by
  have HL := Aside0.mk hL
  have HH := Aside0.mk (And.intro h1 hb)
  have HU : Aside0 (∀ x ∈ L.map Prod.fst, U64 x) := ⟨fun x hx => by obtain ⟨y, hy, rfl⟩ := List.mem_map.1 hx; exact hu y hy⟩
  have HS := Aside0.mk hs
  have HBS := Aside0.mk hbase
  have HLEN := Aside0.mk hlen
  have HM := Aside0.mk (And.intro hBn hown)
  clear hL h1 hb hu hs hbase hlen hBn hown
  go_enter Try.func37, Try.ntmps37
  go_upto_region 2 with (go_at_call 46; refine (collect_calls Bn mb n D L HL.out HLEN.out _ HM.out.1 HM.out.2).mono ?_; rintro e1 w1 ⟨v, ss, rfl, hp, hrow, hb1⟩; have HX := Aside0.mk (And.intro hp (And.intro hrow hb1)); clear hp hrow hb1)
  have hss : ∀ x ∈ ss, U64 x := fun x hx => HU.out x (HX.out.1.mem_iff.1 hx)
  have hlss : ss.length = L.length := by rw [HX.out.1.length_eq, List.length_map]
  have hl1 : (toU ss hss).length = ss.length := List.length_pmap
  have hrow := HX.out.2.1
  rw [← toU_enc ss hss, ← hl1] at hrow
  have hbl : Below w.heap.size w w1 := HX.out.2.2
  have HSORT : Aside0 (Calls Try.prog 47 #[v, .func (.func 39) #[] #[.pointer (some ⟨Bl, 0, none⟩)]] w1 fun e w' => e = .returned (.tuple #[]) ∧ w'.ownsRow w.heap.size 22 1 v (toU ss hss).length ((srtU base (toU ss hss)).map encU) ∧ Below w.heap.size w1 w') := by
    obtain ⟨A, hA, hA2⟩ := HH.out.2
    exact ⟨sort_calls base b Bl w.heap.size (toU ss hss) v w1 hrow (obj_below hbl HH.out.1) ⟨A, obj_below hbl hA, hA2⟩ (Array.getElem?_eq_some_iff.1 HH.out.1).1 (Array.getElem?_eq_some_iff.1 hA).1 HBS.out (by rw [hl1, hlss]; exact HLEN.out) hbl.size⟩
  have HHL := Aside0.mk (And.intro hl1 hlss)
  have HBL := Aside0.mk hbl
  clear hrow hbl hl1 hlss
  go_wp2_with (go_at_call 47; refine (HSORT.out).mono ?_; rintro e2 w2 ⟨rfl, hrow2, hb2⟩; have HY := Aside0.mk (And.intro hrow2 hb2); clear hrow2 hb2)
  go_ret
  have hkeys : srtU base (toU ss hss) = toU (L.map Prod.fst) HU.out := by
    refine srt_eq HBS.out _ _ ?_ ?_
    · exact HX.out.1.pmap _ 
    · unfold toU
      rw [List.pairwise_pmap, List.pairwise_map]
      exact HS.out.imp (fun h _ _ => h)
  have h9 := HY.out.1
  rw [hkeys, toU_enc, HHL.out.1, HHL.out.2, List.map_map] at h9
  exact ⟨v, rfl, h9, HBL.out.trans HY.out.2⟩
end Go.Proofs.Ytglekbbdbnpohaa.QLn
/- Lane: rows of slots; copy, clear. -/
namespace Go.Proofs.Ytglekbbdbnpohaa.QLn
open Go.RowKit Go.ChangeMaps Go.MapKept Go.Proofs.YtglekbbdbnpohaaW.PrintWords Go.Proofs.YtglekbbdbnpohaaW.PrintLast Go.Proofs.YtglekbbdbnpohaaW.PrintMore
set_option linter.unusedVariables false
set_option linter.unusedSimpArgs false
def fS (l : List (Int × Int)) : List Value := l.flatMap (fun p => [.int .i64 p.1, .int .u64 p.2])
theorem fS_len : ∀ l : List (Int × Int), (fS l).length = l.length * 2
  | [] => rfl
  | x :: l => by
    have := fS_len l
    unfold fS at *
    rw [List.flatMap_cons, List.length_append, this]
    simp; omega
theorem fS_append (a b : List (Int × Int)) : fS (a ++ b) = fS a ++ fS b := by unfold fS; rw [List.flatMap_append]
theorem fS_one (l : List (Int × Int)) : ∀ v ∈ fS l, v.oneCell' = true := by
  intro v hv
  unfold fS at hv
  obtain ⟨p, _, hp⟩ := List.mem_flatMap.1 hv
  simp at hp
  rcases hp with rfl | rfl <;> rfl
/-- A row of slots, of which the first are these. -/
def RowS (w : World) (g N : Nat) (l : List (Int × Int)) : Prop := ∃ cur, w.heap[g]? = some (.cells cur 36 (0, 0)) ∧ cur.size = N * 2 ∧ l.length ≤ N ∧ cur.toList.take (l.length * 2) = fS l
theorem RowS.of {w w' : World} {g N : Nat} {l : List (Int × Int)} (h : RowS w g N l) (e : w'.heap[g]? = w.heap[g]?) : RowS w' g N l := by
  obtain ⟨cur, h1, r⟩ := h
  exact ⟨cur, e.trans h1, r⟩
theorem RowS.lt {w : World} {g N : Nat} {l : List (Int × Int)} (h : RowS w g N l) : g < w.heap.size := by
  obtain ⟨cur, h1, r⟩ := h
  exact (Array.getElem?_eq_some_iff.1 h1).1
theorem RowS.below {w w' : World} {g N : Nat} {l : List (Int × Int)} (h : RowS w g N l) (k : Below w.heap.size w w') : RowS w' g N l := h.of (k.block _ h.lt)
theorem RowS.far {w w' : World} {b m g N : Nat} {l : List (Int × Int)} (h : RowS w g N l) (k : Far b m w w') (h1 : g ≠ b) (h2 : g ≠ m) : RowS w' g N l := h.of (k.block _ h.lt h1 h2)
theorem RowS.start (w : World) (c : Array Value) (N : Nat) (hc : c.size = N * 2) : RowS (w.alloc (.cells c 36)) w.heap.size N [] := ⟨c, World.alloc_heap_new _ _, hc, Nat.zero_le _, by simp [fS]⟩
theorem RowS.cell {w : World} {g N : Nat} {l : List (Int × Int)} (h : RowS w g N l) (j : Nat) (v : Value) (hj : (fS l)[j]? = some v) : w.cell? ⟨g, j, none⟩ = some v := by
  obtain ⟨cur, h1, h2, h3, h4⟩ := h
  have hlt := (List.getElem?_eq_some_iff.1 hj).1
  rw [fS_len] at hlt
  rw [← h4, List.getElem?_take, if_pos hlt, Array.getElem?_toList] at hj
  simp only [World.cell?, h1]
  exact hj
theorem RowS.there {w : World} {g N : Nat} {l : List (Int × Int)} (h : RowS w g N l) (o n : Nat) (hn : o + n ≤ N * 2) : w.there g o n := by
  obtain ⟨cur, h1, h2, h3, h4⟩ := h
  exact there_of_block h1 o n (by omega)
theorem RowS.push {w : World} {g N : Nat} {l : List (Int × Int)} (h : RowS w g N l) (l2 : List (Int × Int)) (hn : l.length + l2.length ≤ N) : RowS (w.setCells g (l.length * 2) (fS l2)) g N (l ++ l2) := by
  obtain ⟨cur, h1, h2, h3, h4⟩ := h
  refine ⟨_, blk_setCells (fS l2) (l.length * 2) cur w h1, by rw [size_setAll, h2], by rw [List.length_append]; exact hn, ?_⟩
  apply List.ext_getElem?
  intro j
  rw [List.getElem?_take, fS_append, List.length_append]
  have hfl := fS_len l
  have hfl2 := fS_len l2
  by_cases h5 : j < (l.length + l2.length) * 2
  · rw [if_pos h5, Array.getElem?_toList, get_setAll (fS l2) cur (l.length * 2) j (by rw [hfl2]; omega)]
    by_cases h6 : j < l.length * 2
    · rw [if_neg (by omega), List.getElem?_append_left (by omega), ← h4, List.getElem?_take, if_pos h6, Array.getElem?_toList]
    · rw [if_pos (by omega), List.getElem?_append_right (by omega), hfl]
  · rw [if_neg h5, List.getElem?_eq_none (by rw [List.length_append]; omega)]
theorem RowS.other {w : World} {g g' N o : Nat} {l : List (Int × Int)} (h : RowS w g N l) (vs : List Value) (hne : g ≠ g') : RowS (w.setCells g' o vs) g N l := h.of (far_setCells hne vs o w)
theorem info36 : (Try.prog.info? 36).map (·.size) = some 2 := by kernel_rfl
theorem run_copy2 (w : World) (ty : TypeId) (g o dLen dCap : Nat) (ad : Addr) (sLen sCap : Nat) (cs : List Value) (hn : cs.length = Nat.min sLen dLen * 2)
    (hsrc : ∀ j v, cs[j]? = some v → w.cell? (ad.add j) = some v) (hd : w.there g o cs.length) (h1 : ∀ v ∈ cs, v.oneCell' = true) :
    (Builtin.copy_ #[46, 46] ty #[.slice (some ⟨g, o, none⟩) dLen dCap, .slice (some ad) sLen sCap]).run Try.prog w = .ok (goInt (Nat.min sLen dLen)) (w.setCells g o cs) := by
  have hl := run_loadCells_list (P := Try.prog) w ad cs hsrc
  have hst := run_storeCells_cells (P := Try.prog) g o cs 0 w (fun j hj => by have := (hd j hj).1; simpa using this) (fun j hj => by have := (hd j hj).2; simpa using this) h1
  have hs := info36
  cases hq : Try.prog.info? 36 with
  | none => simp [hq] at hs
  | some i =>
    have hi : i.size = 2 := by simpa [hq] using hs
    simp [Builtin.copy_, run_underlying Try.underlying46, Builtin.lenOf, Builtin.firstCells, sizeOf, typeInfo, hq, hi, ← hn, hl, hst]
theorem run_copy2_none (w : World) (ty : TypeId) (dp sp : Option Addr) (dLen dCap sLen sCap : Nat) (hn : Nat.min sLen dLen = 0) :
    (Builtin.copy_ #[46, 46] ty #[.slice dp dLen dCap, .slice sp sLen sCap]).run Try.prog w = .ok (goInt 0) w := by
  have hs := info36
  cases hq : Try.prog.info? 36 with
  | none => simp [hq] at hs
  | some i =>
    have hl : ∀ (x : Addr), (loadCells x 0).run Try.prog w = .ok #[] w := fun x => by simpa using run_loadCells_list (P := Try.prog) w x [] (by simp)
    cases dp <;> cases sp <;> simp [Builtin.copy_, run_underlying Try.underlying46, Builtin.lenOf, Builtin.firstCells, sizeOf, typeInfo, hq, hn, storeCells, hl]
section
variable {ops : Array Oper} {rest : List Oper} {op : Oper} {a : Act} {w : World} {Q : Exit → Act → World → Prop}
theorem copy_rows (hgd : op.guard = none) (d s : Operand) (ho : op.op = .call { callee := .builtin .copy, args := #[d, s], argTypes := #[46, 46] })
    (dp sp : Option Addr) (dLen dCap sLen sCap n : Nat) (hd : a.eval d = .slice dp dLen dCap) (hs : a.eval s = .slice sp sLen sCap) (hm : Nat.min sLen dLen = n)
    (g o : Nat) (cs : List Value) (hn : cs.length = n * 2)
    (hpos : 0 < cs.length → dp = some ⟨g, o, none⟩ ∧ ∃ ad, sp = some ad ∧ ∀ j v, cs[j]? = some v → w.cell? (ad.add j) = some v) (ht : w.there g o cs.length) (h1 : ∀ v ∈ cs, v.oneCell' = true)
    (h : ∀ w', w' = w.setCells g o cs → wpList Try.prog ops Q rest (a.put op.dst (.int .i64 (n : Int))) w') : wpList Try.prog ops Q (op :: rest) a w := by
  subst hm
  refine wpList_plain hgd fun K hK => ?_
  by_cases h0 : cs.length = 0
  · have hcs : cs = [] := List.eq_nil_of_length_eq_zero h0
    have hm : Nat.min sLen dLen = 0 := by omega
    have hrun := run_copy2_none w op.type dp sp dLen dCap sLen sCap hm
    have h2 := h w (by rw [hcs]; rfl)
    rw [hm] at h2
    unfold Oper.wp
    simp [execOp, ho, resolve, invoke, builtin, hd, hs, hrun, Result.andThen]
    exact hK _ _ h2
  · obtain ⟨rfl, ad, rfl, hsrc⟩ := hpos (by omega)
    have hrun := run_copy2 w op.type g o dLen dCap ad sLen sCap cs hn hsrc ht h1
    unfold Oper.wp
    simp [execOp, ho, resolve, invoke, builtin, hd, hs, hrun, Result.andThen]
    exact hK _ _ (h _ rfl)
theorem clear_own (hgd : op.guard = none) (m : Operand) (ho : op.op = .call { callee := .builtin .clear, args := #[m], argTypes := #[65] })
    (mb n : Nat) (D : DataW Past) (hm : a.eval m = .map (some mb)) (hown : w.ownsMap Try.prog 22 Rp mb n D)
    (h : ∀ w', w'.ownsMap Try.prog 22 Rp mb 0 (.map []) → w.grownBy w' (some mb) → wpList Try.prog ops Q rest (a.put op.dst (.tuple #[])) w') : wpList Try.prog ops Q (op :: rest) a w := by
  refine wpList_plain hgd fun K hK => ?_
  obtain ⟨es, clock, hb, F, hs, rfl⟩ := hown
  have hrun : (Builtin.clear_ #[65] op.type #[.map (some mb)]).run Try.prog w = .ok (.tuple #[]) (setBlock w mb (.map #[] clock)) := by
    simp [Builtin.clear_, run_underlying Try.underlying65, MapKept.run_getObj_map hb, run_setObj_map (.map #[] clock) hb, setBlock, Result.andThen]
  unfold Oper.wp
  simp [execOp, ho, resolve, invoke, builtin, hm, hrun, Result.andThen]
  refine hK _ _ (h _ ?_ ?_)
  · exact ⟨#[], clock, heap_setBlock_same hb _, ⟨by simp, stamped_empty clock, by simp⟩, Nat.le_refl _, rfl⟩
  · exact ⟨rfl, rfl, rfl, by simp [setBlock], fun i _ hi => heap_setBlock_other hb _ (fun e => hi (by rw [e]))⟩
end
end Go.Proofs.Ytglekbbdbnpohaa.QLn
