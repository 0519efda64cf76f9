/- Agenda: out. -/
import Derived.Test.YthjppjcmapgkpaaTAg
namespace Go.Proofs.Ythjppjcmapgkpaa.QAg
open Go.RowKit Go.Maps Go.Proofs.YthjppjcmapgkpaaW.PrintWords Go.Proofs.YthjppjcmapgkpaaW.PrintLast Go.Proofs.YthjppjcmapgkpaaW.PrintMore
set_option linter.unusedVariables false
set_option linter.unusedSimpArgs false
/-- The entry at i is out, of the heap and of the map. -/
structure OutP (w : World) (b mb B : Nat) (nx : Int) (n : Nat) (e : Nat → En) (l : List (Int × Nat)) (i : Nat) (w' : World) : Prop where
  am : ∃ e' v', RemR n e i e' ∧ Am w' b mb B fLess v' nx n e' (l.filter (fun x => decide (x.1 ≠ (e i).id)))
  ag : Ag b mb B w w'
  en : w'.heap[(e i).g]? = some (.cells (aE (e i) n) 75 (0, 0))
set_option maxRecDepth 100000 in
set_option maxHeartbeats 2000000 in
theorem out_calls {w : World} {b mb B : Nat} {v : Value} {nx : Int} {n : Nat} {e : Nat → En} {l : List (Int × Nat)} (h : Am w b mb B fLess v nx (n + 1) e l) {i : Nat} (hi : i < n + 1) (h1 : 0 ≤ (e i).id) (h2 : (e i).id ≤ 1000000) : Calls Try.prog 37 #[.pointer (some ⟨b, 0, none⟩), .pointer (some ⟨(e i).g, 0, none⟩)] w fun r w' => r = .returned (.tuple #[]) ∧ OutP w b mb B nx n e l i w' := by
  have HA := Aside0.mk (h.below (Below.refl _ _).drew)
  have HI := Aside0.mk hi
  have HW0 : Aside0 (Ag b mb B w w.drew) := ⟨Ag.of_below (Below.refl _ _).drew⟩
  have x1 : w.cell? ⟨(e i).g, 1, none⟩ = some (.int .i64 (i : Int)) := (h.hq.hp.entry hi).2.1
  have HOK : Aside0 ((Lit.int .i64 (e i).id).wf = true) := ⟨wf64 h1 h2⟩
  clear h hi h1 h2
  go_enter Try.func37, Try.ntmps37
  go_upto_region 0 with fail
  go_still_tail 8, rfl
  go_upto_region 1 with (go_at_call 47; refine (remove_calls (mb := b) HA.out.hq HI.out).mono ?_; rintro r w2 ⟨rfl, e', v', hr, hq2, hg2, hx2⟩; have HR := Aside0.mk (And.intro hr (And.intro (HA.out.after hg2 hq2) (And.intro (HW0.out.trans hg2.wide) hx2))); clear hr hq2 hg2 hx2)
  clear x1 HA HW0
  have c2 := HR.out.2.1.hq.hp.cells.2.2.1
  have x0 := (ent_cells HR.out.2.2.2).1
  go_still_tail 8, rfl
  obtain ⟨N, D, ho, hL, hN⟩ := HR.out.2.1.mp
  have HO := Aside0.mk (And.intro ho (And.intro hL hN))
  clear ho hL hN
  go_wp2_with (at_delete; refine wpList_delete_own _ rfl (.tmp 16) (.tmp 20) 61 3 rfl 73 keyed Try.underlying61 Rv mb N D rfl (ownsMap_of HO.out.1 rfl) _ (.int .i64 (e i).id) rfl (own_key HOK.out) ?_; intro w4 hown hgrow; have HX4 := Aside0.mk (And.intro hown hgrow); clear hown hgrow)
  obtain ⟨es, cl, hbm⟩ := own_block HO.out.1
  have HT := Aside0.mk (Am.map_turn (w := w2.drew) (N' := N) (HR.out.2.1.hq.turn (mb := mb) (Nat.le_refl _) (fun _ _ _ h => h)) HR.out.2.1.ml hbm HX4.out.2.grown (by have := HO.out.2.2; omega) HX4.out.1 (HO.out.2.1.del (e i).id))
  exact bodyPost_end (results_none rfl _ _ _) rfl ⟨rfl, ⟨e', v', HR.out.1, HT.out.1⟩, HR.out.2.2.1.trans ((Ag.of_below (Below.refl _ _).drew).trans HT.out.2), cells_map (w := w2.drew) hbm HX4.out.2.grown HR.out.2.2.2⟩
end Go.Proofs.Ythjppjcmapgkpaa.QAg
