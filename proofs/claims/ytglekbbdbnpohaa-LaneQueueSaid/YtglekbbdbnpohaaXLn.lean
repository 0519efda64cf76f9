/- Lane: slices.AppendSeq and Collect, at numbers. -/
import Derived.Test.YtglekbbdbnpohaaVLn
import Derived.RangeFuncBound
import Derived.RangeFuncCalls
import Derived.RangeFuncLeaves
import Derived.Shelf.Abstract
import Derived.Shelf.RegionOpen
import Derived.OwnWalkIn
import Derived.TacticsInMore
import Derived.LoopNIn
import Derived.LoopIn
import Derived.RangeFuncBox
import Derived.Maps.AppendAt
namespace Go.Proofs.Ytglekbbdbnpohaa.QLn
open Go.RowKit Go.Maps Go.Proofs.YtglekbbdbnpohaaW.PrintWords Go.Proofs.YtglekbbdbnpohaaW.PrintLast Go.Proofs.YtglekbbdbnpohaaW.PrintMore
set_option linter.unusedVariables false
set_option linter.unusedSimpArgs false
attribute [local go_sem] Oper.semAt_some
theorem info22 : (Try.prog.info? 22).map (fun i => (i.zero, i.size, i.bytes)) = some (some (.int .u64 0), 1, 8) := by kernel_rfl
set_option maxRecDepth 100000 in
set_option maxHeartbeats 2000000 in
theorem appendSeq_calls (Bn b n : Nat) (D : DataW Past) (L : List (Int × Past)) (hL : Lst D L) (hlen : L.length < 1000000) (w : World) (hBn : w.cell? ⟨Bn, 0, none⟩ = some (.map (some b))) (hown : w.ownsMap Try.prog 22 Rp b n D) :
    Calls Try.prog 51 #[.slice none 0 0, .func (.func 48) #[] #[.pointer (some ⟨Bn, 0, none⟩)]] w fun e w' => ∃ (v : Value) (ss : List Int), e = .returned v ∧ ss.Perm (L.map Prod.fst) ∧ w'.ownsRow w.heap.size 22 1 v ss.length (ss.map (Value.int .u64)) ∧ Below w.heap.size w w' := by
  have HL := Aside0.mk hL
  have HLEN := Aside0.mk hlen
  have HB0 : Aside0 (Below w.heap.size w (w.alloc (.cells #[.slice none 0 0] 85))) := ⟨(Below.refl _ w).alloc (Nat.le_refl _) _⟩
  have HM : Aside0 ((w.alloc (.cells #[.slice none 0 0] 85)).cell? ⟨Bn, 0, none⟩ = some (.map (some b)) ∧ (w.alloc (.cells #[.slice none 0 0] 85)).ownsMap Try.prog 22 Rp b n D) := ⟨pw_cell_below HB0.out hBn, hown.alloc _⟩
  have HX : Aside0 (Boxed (w.alloc (.cells #[.slice none 0 0] 85)) w.heap.size 85 (.slice none 0 0)) := ⟨Boxed.new w 85 (.slice none 0 0)⟩
  have HSZ : Aside0 ((w.alloc (.cells #[.slice none 0 0] 85)).heap.size = w.heap.size + 1) := ⟨World.size_alloc _ _⟩
  clear hL hlen hBn hown
  refine (callsIn_wide (n := 3)).1 ?_
  refine callsIn_of_wp_marks Try.func51 rfl trivial ?_ rfl
  simp only [Try.ntmps51, List.size_toArray, List.length_cons, List.length_nil, Nat.reduceAdd, Nat.reduceSub, Array.replicate_succ, Array.replicate_zero, List.push_toArray, List.append_toArray, List.nil_append, List.cons_append]
  gi_wp2
  generalize w.alloc (.cells #[.slice none 0 0] 85) = W0 at HB0 HM HX HSZ ⊢
  obtain ⟨i0, hi, hz0, hz1, hz2⟩ := info_parts info22
  have hsz := HSZ.out
  refine wpIn_rangeFunc_ownG (F := Fence.wide) (n := 3) (by rfl) (by decide) (gf := 48) (lb := #[.pointer (some ⟨Bn, 0, none⟩)]) (by rfl) (by trivial) (enters_of Try.func48 (by kernel_rfl) rfl)
    (keys_seq 1 Bn b n D L HL.out W0 HM.out.1 HM.out.2) walksK_t walksK_b (Below.refl _ _) (fun _ => rfl)
    (fun (pre : List Int) W => (∃ v, Boxed W w.heap.size 85 v ∧ W.ownsRow w.heap.size 22 1 v pre.length (pre.map (Value.int .u64)) ∧ True) ∧ Below w.heap.size w W)
    (fun _ _ _ => False)
    (OwnFrom.and (Own.from (holdsRow_own w.heap.size w.heap.size 85 22 1 (fun pre : List Int => pre.length) (fun pre : List Int => pre.map (Value.int .u64)) (fun (_ : List Int) _ => True)) _) (ownFrom_below (Nat.le_refl _) (by omega)))
    (fun _ _ _ _ _ hs _ _ => hs)
    ⟨⟨_, HX.out, World.ownsRow_nil _ _ _ _, trivial⟩, HB0.out⟩
    (fun (x : Int) => { tmps := #[Value.slice none 0 0, Value.func (Fn.func 48) #[] #[Value.pointer (some { block := Bn, off := 0 })],
          Value.pointer (some { block := w.heap.size, off := 0 }), undef, Value.slice none 0 0, .int .u64 x,
          Value.func (Fn.func 48) #[] #[Value.pointer (some { block := Bn, off := 0 })], .int .u64 x, undef, undef, undef,
          undef, undef], defers := [] }) ?assign ?body ?done ?stop
  case assign =>
    intro l x W K hK
    gi_wp2
    exact hK
  case body =>
    rintro lp pre x W ⟨⟨v, hv, hrow, _⟩, hB⟩ hlt
    have hc := hv.cell
    have hf := hv.frozen
    have HIN := Aside0.mk (And.intro hrow (And.intro hv hB))
    have HI := Aside0.mk (And.intro hi (And.intro hz0 (And.intro hz1 hz2)))
    have hns : w.heap.size ≤ W.heap.size := hB.size
    have HLT := Aside0.mk hlt
    have hl0 : pre.length < 1000000 := by have := HLEN.out; omega
    clear hv hrow hB hi hz0 hz1 hz2 hlt
    gi_wp2_with (gi_at_builtin; go_loud (refine wpListIn_append_own _ rfl _ _ 85 rfl w.heap.size 22 i0 _ 1 8 Try.underlying85 HI.out.1 HI.out.2.1 HI.out.2.2.1 HI.out.2.2.2 rfl (by decide) _ _ _ rfl (HIN.out.1.alloc _) _ 1 1 [.int .u64 x] rfl rfl (cell_one_new _ _ _) (by intro u hu; simp only [List.mem_cons, List.not_mem_nil, or_false] at hu; rcases hu with rfl; rfl) (by unfold maxLen; omega) (by omega) (by simp; omega) ?_); intro v' w1 hown' hgrow _; obtain ⟨g', cap', rfl⟩ := ownsRow_succ hown'; obtain ⟨hv1, hv2, hr2, hk2, hb2⟩ := HIN.out.2.1.appended (by decide) HIN.out.1 hns (Nat.le_refl _) hown' hgrow; have hc1 := hv1.cell; have hf1 := hv1.frozen; have HZ2 := Aside0.mk (And.intro hv2 (And.intro hr2 (And.intro hk2 hb2))); clear hv1 hv2 hr2 hk2 hb2 hown' hgrow)
    exact ⟨HZ2.out.2.2.1.from _, HZ2.out.2.2.1.walks, ⟨⟨_, HZ2.out.1, by rw [List.length_append, List.map_append]; exact HZ2.out.2.1, trivial⟩, HIN.out.2.2.trans HZ2.out.2.2.2⟩⟩
  case done =>
    rintro D ys W hD hS ⟨⟨v, hv, hrow, _⟩, hB⟩ hK
    have hc := hv.cell
    gi_wp2
    refine ⟨by simp, .inl ⟨_, _, rfl, run_takeDeferred hK, ?_⟩⟩
    have hb : Below w.heap.size w (W.putObj D (Obj.deferred none)) := hB.trans (belowK_b (w := W0) (by omega) W D _ _ hD hK rfl rfl)
    refine ⟨_, results_tmp rfl _ _ _, v, ys, rfl, hS, own_move hrow (fun k hk => ?_), hb⟩
    obtain ⟨cells, hcl⟩ := own_typed hrow k hk
    exact World.putObj_heap_other (fun e => by subst e; rw [hK] at hcl; cases hcl)
  case stop =>
    rintro D c pre W _ _ h _
    exact h.elim
set_option maxRecDepth 100000 in
theorem collect_calls (Bn b n : Nat) (D : DataW Past) (L : List (Int × Past)) (hL : Lst D L) (hlen : L.length < 1000000) (w : World) (hBn : w.cell? ⟨Bn, 0, none⟩ = some (.map (some b))) (hown : w.ownsMap Try.prog 22 Rp b n D) :
    Calls Try.prog 46 #[.func (.func 48) #[] #[.pointer (some ⟨Bn, 0, none⟩)]] w fun e w' => ∃ (v : Value) (ss : List Int), e = .returned v ∧ ss.Perm (L.map Prod.fst) ∧ w'.ownsRow w.heap.size 22 1 v ss.length (ss.map (Value.int .u64)) ∧ Below w.heap.size w w' := by
  go_enter Try.func46, Try.ntmps46
  go_wp2_with (go_at_call 51; refine (appendSeq_calls Bn b n D L hL hlen _ hBn hown).mono ?_; rintro e1 w1 ⟨v, ss, rfl, h1, h2, h3⟩; have HX := Aside0.mk (And.intro h1 (And.intro h2 h3)); clear h1 h2 h3)
  go_ret
  exact ⟨v, ss, rfl, HX.out⟩
end Go.Proofs.Ytglekbbdbnpohaa.QLn
