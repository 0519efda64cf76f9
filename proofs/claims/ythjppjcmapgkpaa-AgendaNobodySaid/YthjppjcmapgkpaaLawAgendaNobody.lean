/- AgendaNobody: the row, out of the printed walk and the pure statement. Written by genlaw.py of this repo. -/
import Derived.Test.YthjppjcmapgkpaaRows
import Derived.Test.YthjppjcmapgkpaaOAgendaNobody
import Derived.WalkKit
import Derived.ProofKit
import Derived.OpenShut
import Derived.ShutString
import Derived.ChangeOld
import Derived.Below
import Derived.SizedLaws
namespace Go.Proofs.Ythjppjcmapgkpaa.agendaNobody
open Go.RowKit Go.ChangeShapes Go.WideShapes Go.ChangeAt Go.Proofs.YthjppjcmapgkpaaW.PrintWords Go.Proofs.Ythjppjcmapgkpaa.LO Go.Proofs.Ythjppjcmapgkpaa.QAg Go.Proofs.Ythjppjcmapgkpaa.OAgendaNobody
open Go.ChangeMaps (open_string shut_string)
set_option linter.unusedVariables false
theorem own : ownKnob Try.prog.godebug = none := by kernel_rfl
theorem laid : laidOutB Try.prog = true := by kernel_rfl
theorem readable : ([35].all fun t => Try.prog.readableRec t && decide (t < Try.prog.types.size)) = true := by kernel_rfl
set_option maxRecDepth 100000 in
theorem lifted (os : Os) (started : os.Started) (H : Type) (enc : TypeId × Value → H) :
    ReturnsInHanded {} Try.checked os 7 .any (Rows.agendaNobodySpec.pre6 enc Try.prog Try.f7 Rows.agendaNobodyRow.domain false) (Rows.agendaNobodySpec.post enc Try.prog Try.f7 false true false false) := by
  refine returnsInHanded_of_change_sized (C := Try.checked) own started (by kernel_rfl) Try.func7
    (ChangeSpec.witness6 (enc := enc) (C := Try.checked) false ⟨#[], #[.agg #[.int .i64 0, .int .i8 0, .int .i64 0, .int .i64 0, .int .i64 0]], []⟩ 8 (by kernel_rfl) (by kernel_rfl) (by kernel_rfl) (by kernel_rfl)) ?_
  intro W base args ds gs before hval0 hW hcnd hsz0 _
  have hsz : (DataW.weightsEach Try.prog (Try.f7.params.toList ++ Rows.agendaNobodySpec.plain.varTypes Try.prog) (ds ++ gs)).all (· ≤ reachBytes) = true := hsz0
  have hval : ∀ (j : Nat) t v, Try.f7.params[j]? = some t → args[j]? = some v → Value.okWide Try.prog W .any base t v := hval0
  have hW' := hW
  obtain ⟨p, q, hA0, hV, rfl, hfz, hnd⟩ := hW
  have hA : DataW.TrodAll enc Try.prog W 0 (fun _ => true) true Try.f7.params.toList args.toList ds p := hA0
  rw [Try.params7] at hA hval hsz
  obtain ⟨v0, vs0, d0, ds0, p0, q0, hargs, rfl, rfl, h0, r0⟩ := trodAll_cons hA
  obtain ⟨rfl, rfl, rfl⟩ := trodAll_nil r0
  obtain rfl : args = #[v0] := by cases args; simp_all
  obtain ⟨rfl, rfl⟩ := trodVars_none hV
  have u0 := each_cons (t := 35) (d := d0) hsz
  clear hA0 hval0 hsz0 hsz
  obtain ⟨cs0, x0, rfl, K0, w0⟩ := LO.open_struct Try.underlying35 op_35 (hval 0 35 v0 rfl rfl) h0 u0.1
  obtain rfl := k35_open K0
  refine (AgendaNobody_hand x0.f0 x0.f1.f0 x0.f1.f1 x0.f2 x0.f3 W  w0).mono fun e W' ⟨he, bel⟩ => ?_
  subst he
  have rd := trodAll_below laid bel _ _ _ _ (fun t ht => by have := List.all_eq_true.1 readable t ht; simpa using this) (fun x hx => hW'.lt x (by simpa using hx)) hA
  exact ⟨_, rfl, _, _, _, [], _, [], hW', trodAll_mk1 (shut_bool Try.underlying4 _), rd, rfl, bel.frame _, fun h => by cases h⟩
theorem over : Rows.agendaNobodyRow.holds Try.pinned (OpenSpec.ofChange Rows.agendaNobodySpec) :=
  OpenClaim.holds_of_wide 7 Try.f7 rfl rfl rfl rfl rfl rfl rfl ⟨rfl, rfl, rfl, rfl, rfl⟩ rfl rfl rfl rfl rfl (by kernel_rfl) Try.func7 (by kernel_rfl)
    (of_decide_eq_true (by kernel_rfl)) (by unfold Func.isWrapper; first | (rw [if_pos (by decide +kernel)]; kernel_rfl) | (rw [if_neg (by decide +kernel)]; exact ⟨rfl, rfl⟩))
    (fun os started H enc _ => lifted os started H enc)
theorem proved : Rows.AgendaNobodySaid := over
#print axioms proved
end Go.Proofs.Ythjppjcmapgkpaa.agendaNobody
namespace Go.Proofs.Ythjppjcmapgkpaa
theorem agendaNobody_holds : Rows.AgendaNobodySaid := agendaNobody.proved
end Go.Proofs.Ythjppjcmapgkpaa
