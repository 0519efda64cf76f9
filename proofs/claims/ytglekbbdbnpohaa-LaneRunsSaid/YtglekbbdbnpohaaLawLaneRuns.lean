/- LaneRuns: the row, out of the printed walk and the pure statement. Written by genlaw.py of this repo. -/
import Derived.Test.YtglekbbdbnpohaaRows
import Derived.Test.YtglekbbdbnpohaaOLaneRuns
import Derived.WalkKit
import Derived.ProofKit
import Derived.OpenShut
import Derived.ShutString
import Derived.ChangeOld
import Derived.Below
import Derived.SizedLaws
namespace Go.Proofs.Ytglekbbdbnpohaa.laneRuns
open Go.RowKit Go.ChangeShapes Go.WideShapes Go.ChangeAt Go.Proofs.YtglekbbdbnpohaaW.PrintWords Go.Proofs.Ytglekbbdbnpohaa.LO Go.Proofs.Ytglekbbdbnpohaa.QLn Go.Proofs.Ytglekbbdbnpohaa.OLaneRuns
open Go.ChangeMaps (open_string shut_string)
set_option linter.unusedVariables false
theorem own : ownKnob Try.prog.godebug = none := by kernel_rfl
theorem laid : laidOutB Try.prog = true := by kernel_rfl
theorem readable : ([3, 4, 22, 23].all fun t => Try.prog.readableRec t && decide (t < Try.prog.types.size)) = true := by kernel_rfl
set_option maxRecDepth 100000 in
theorem lifted (os : Os) (started : os.Started) (H : Type) (enc : TypeId × Value → H) :
    ReturnsInHanded {} Try.checked os 3 .any (Rows.laneRunsSpec.pre6 enc Try.prog Try.f3 Rows.laneRunsRow.domain false) (Rows.laneRunsSpec.post enc Try.prog Try.f3 false true false false) := by
  refine returnsInHanded_of_change_sized (C := Try.checked) own started (by kernel_rfl) Try.func3
    (ChangeSpec.witness6 (enc := enc) (C := Try.checked) false ⟨#[], #[.int .i64 0, .bool false, .int .u64 0, .slice none 0 0], []⟩ 8 (by kernel_rfl) (by kernel_rfl) (by kernel_rfl) (by kernel_rfl)) ?_
  intro W base args ds gs before hval0 hW hcnd hsz0 _
  have hsz : (DataW.weightsEach Try.prog (Try.f3.params.toList ++ Rows.laneRunsSpec.plain.varTypes Try.prog) (ds ++ gs)).all (· ≤ reachBytes) = true := hsz0
  have hval : ∀ (j : Nat) t v, Try.f3.params[j]? = some t → args[j]? = some v → Value.okWide Try.prog W .any base t v := hval0
  have hW' := hW
  obtain ⟨p, q, hA0, hV, rfl, hfz, hnd⟩ := hW
  have hA : DataW.TrodAll enc Try.prog W 0 (fun _ => true) true Try.f3.params.toList args.toList ds p := hA0
  rw [Try.params3] at hA hval hsz
  obtain ⟨v0, vs0, d0, ds0, p0, q0, hargs, rfl, rfl, h0, r0⟩ := trodAll_cons hA
  obtain ⟨v1, vs1, d1, ds1, p1, q1, rfl, rfl, rfl, h1, r1⟩ := trodAll_cons r0
  obtain ⟨v2, vs2, d2, ds2, p2, q2, rfl, rfl, rfl, h2, r2⟩ := trodAll_cons r1
  obtain ⟨v3, vs3, d3, ds3, p3, q3, rfl, rfl, rfl, h3, r3⟩ := trodAll_cons r2
  obtain ⟨rfl, rfl, rfl⟩ := trodAll_nil r3
  obtain rfl : args = #[v0, v1, v2, v3] := by cases args; simp_all
  obtain ⟨rfl, rfl⟩ := trodVars_none hV
  have u0 := each_cons (t := 3) (d := d0) hsz
  have u1 := each_cons (t := 4) (d := d1) u0.2
  have u2 := each_cons (t := 22) (d := d2) u1.2
  have u3 := each_cons (t := 23) (d := d3) u2.2
  clear hA0 hval0 hsz0 hsz
  obtain ⟨a0, rfl, rfl, rfl, w0⟩ := open_int Try.underlying3 (hval 0 3 v0 rfl rfl) h0
  obtain ⟨a1, rfl, rfl, rfl⟩ := open_bool Try.underlying4 (hval 1 4 v1 rfl rfl) h1
  obtain ⟨a2, rfl, rfl, rfl, w2⟩ := open_int Try.underlying22 (hval 2 22 v2 rfl rfl) h2
  obtain ⟨A3, c3, l3, rfl, hc3, hr3, w3⟩ := LO.open_slice Try.underlying23 op_23 (hval 3 23 v3 rfl rfl) h3 u3.1
  refine (LaneRuns_hand a0 a1 a2 A3 c3 l3 W hr3 hc3 w0 trivial w2 w3).mono fun e W' ⟨he, bel⟩ => ?_
  subst he
  have rd := trodAll_below laid bel _ _ _ _ (fun t ht => by have := List.all_eq_true.1 readable t ht; simpa using this) (fun x hx => hW'.lt x (by simpa using hx)) hA
  exact ⟨_, rfl, _, _, _, [], _, [], hW', trodAll_mk1 (shut_bool Try.underlying4 _), rd, rfl, bel.frame _, fun h => by cases h⟩
theorem over : Rows.laneRunsRow.holds Try.pinned (OpenSpec.ofChange Rows.laneRunsSpec) :=
  OpenClaim.holds_of_wide 3 Try.f3 rfl rfl rfl rfl rfl rfl rfl ⟨rfl, rfl, rfl, rfl, rfl⟩ rfl rfl rfl rfl rfl (by kernel_rfl) Try.func3 (by kernel_rfl)
    (of_decide_eq_true (by kernel_rfl)) (by unfold Func.isWrapper; first | (rw [if_pos (by decide +kernel)]; kernel_rfl) | (rw [if_neg (by decide +kernel)]; exact ⟨rfl, rfl⟩))
    (fun os started H enc _ => lifted os started H enc)
theorem proved : Rows.LaneRunsSaid := over
#print axioms proved
end Go.Proofs.Ytglekbbdbnpohaa.laneRuns
namespace Go.Proofs.Ytglekbbdbnpohaa
theorem laneRuns_holds : Rows.LaneRunsSaid := laneRuns.proved
end Go.Proofs.Ytglekbbdbnpohaa
