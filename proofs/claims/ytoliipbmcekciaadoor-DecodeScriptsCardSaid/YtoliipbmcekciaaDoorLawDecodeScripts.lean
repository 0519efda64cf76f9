/- DecodeScripts: the row, out of the printed walk and the pure statement. Written by genlaw.py of this repo. -/
import Derived.Test.YtoliipbmcekciaaDoorRows
import Derived.Test.YtoliipbmcekciaaDoorCards
import Derived.Test.YtoliipbmcekciaaDoorTie
import Derived.Test.YtoliipbmcekciaaDoorZ18
import Derived.SevenTiedAt
import Derived.WalkKit
import Derived.ProofKit
import Derived.OpenShut
import Derived.ShutString
import Derived.ChangeOld
import Derived.Below
import Derived.SizedLaws
namespace Go.Proofs.YtoliipbmcekciaaDoor.decodeScripts
open Go.RowKit Go.ChangeShapes Go.WideShapes Go.ChangeAt Go.Proofs.YtoliipbmcekciaaDoorW.PrintWords Go.Proofs.YtoliipbmcekciaaDoor.LO Go.Proofs.YtoliipbmcekciaaDoor.QDd Go.Proofs.YtoliipbmcekciaaDoor.ODecodeScripts
open Go.ChangeMaps (open_string shut_string)
set_option linter.unusedVariables false
theorem own : ownKnob Tryd.prog.godebug = none := by kernel_rfl
theorem laid : laidOutB Tryd.prog = true := by kernel_rfl
theorem readable : ([28, 67].all fun t => Tryd.prog.readableRec t && decide (t < Tryd.prog.types.size)) = true := by kernel_rfl
set_option maxRecDepth 100000 in
theorem lifted (os : Os) (started : os.Started) (H : Type) (enc : TypeId × Value → H) :
    ReturnsInHanded {} Tryd.checked os 9 .any (fun w args => (Rows.decodeScriptsSpec.pre enc Tryd.prog Tryd.f9 [] false w args ∧ laidMetH Tryd.prog QDc.laidD w) ∧ sizedMet enc Tryd.prog Tryd.f9 (OpenSpec.ofChange Rows.decodeScriptsSpec) false w args) (Rows.decodeScriptsSpec.post enc Tryd.prog Tryd.f9 false true false false) := by
  refine returnsInHanded_of_change_and (C := Tryd.checked) (X := fun w _ => laidMetH Tryd.prog QDc.laidD w) (fun _ _ _ hh h => h.of_heap hh) own started (by kernel_rfl) Tryd.func9
    (ChangeSpec.witness_shaped (enc := enc) (C := Tryd.checked) (os := os) (X := fun w _ => laidMetH Tryd.prog QDc.laidD w) false (World.doorLaid Tryd.prog 19 os) #[.agg #[.slice none 0 0, .slice none 0 0, .slice none 0 0, .slice none 0 0, .slice none 0 0, .int .i64 0, .int .i64 0, .int .i64 0], .slice none 0 0] 8 rfl (World.shaped_of_RefB (by kernel_rfl) (by kernel_rfl)) (by kernel_rfl) (by kernel_rfl) (by kernel_rfl) (QDc.door_met os _)) ?_
  intro W base args ds gs before hval0 hW hcnd hsz0 hL _
  have hsz : (DataW.weightsEach Tryd.prog (Tryd.f9.params.toList ++ Rows.decodeScriptsSpec.plain.varTypes Tryd.prog) (ds ++ gs)).all (· ≤ reachBytes) = true := hsz0
  have hval : ∀ (j : Nat) t v, Tryd.f9.params[j]? = some t → args[j]? = some v → Value.okWide Tryd.prog W .any base t v := hval0
  have hW' := hW
  obtain ⟨p, q, hA0, hV, rfl, hfz, hnd⟩ := hW
  have hA : DataW.TrodAll enc Tryd.prog W 0 (fun _ => true) true Tryd.f9.params.toList args.toList ds p := hA0
  rw [Tryd.params9] at hA hval hsz
  obtain ⟨v0, vs0, d0, ds0, p0, q0, hargs, rfl, rfl, h0, r0⟩ := trodAll_cons hA
  obtain ⟨v1, vs1, d1, ds1, p1, q1, rfl, rfl, rfl, h1, r1⟩ := trodAll_cons r0
  obtain ⟨rfl, rfl, rfl⟩ := trodAll_nil r1
  obtain rfl : args = #[v0, v1] := by cases args; simp_all
  obtain ⟨rfl, rfl⟩ := trodVars_none hV
  have u0 := each_cons (t := 28) (d := d0) hsz
  have u1 := each_cons (t := 67) (d := d1) u0.2
  clear hA0 hval0 hsz0 hsz
  obtain ⟨cs0, x0, rfl, K0, w0⟩ := LO.open_struct Tryd.underlying28 op_28 (hval 0 28 v0 rfl rfl) h0 u0.1
  obtain ⟨A0_0, c0_0, A0_1, c0_1, A0_2, c0_2, A0_3, c0_3, A0_4, c0_4, rfl, hc0_0, hr0_0, hc0_1, hr0_1, hc0_2, hr0_2, hc0_3, hr0_3, hc0_4, hr0_4⟩ := k28_open K0
  obtain ⟨A1, c1, l1, rfl, hc1, hr1, w1⟩ := LO.open_slice Tryd.underlying67 op_67 (hval 1 67 v1 rfl rfl) h1 u1.1
  refine (DecodeScripts_hand A0_0 c0_0 x0.f0 A0_1 c0_1 x0.f1 A0_2 c0_2 x0.f2 A0_3 c0_3 x0.f3 A0_4 c0_4 x0.f4 x0.f5 x0.f6 x0.f7 A1 c1 l1 W hr0_0 hc0_0 hr0_1 hc0_1 hr0_2 hc0_2 hr0_3 hc0_3 hr0_4 hc0_4 hr1 hc1 w0 w1 (QDc.glob_of_laid hL)).mono fun e W' ⟨he, bel⟩ => ?_
  subst he
  have rd := trodAll_below laid bel _ _ _ _ (fun t ht => by have := List.all_eq_true.1 readable t ht; simpa using this) (fun x hx => hW'.lt x (by simpa using hx)) hA
  exact ⟨_, rfl, _, _, _, [], _, [], hW', trodAll_mk1 (shut_bool Tryd.underlying4 _), rd, rfl, bel.frame _, fun h => by cases h⟩
theorem over : Rows.decodeScriptsRow.holds Tryd.pinned (OpenSpec.ofChange Rows.decodeScriptsSpec) :=
  OpenClaim.holds_of_wide 9 Tryd.f9 rfl rfl rfl rfl rfl rfl rfl ⟨rfl, rfl, rfl, rfl, rfl⟩ rfl rfl rfl rfl rfl (by kernel_rfl) Tryd.func9 (by kernel_rfl)
    (of_decide_eq_true (by kernel_rfl)) (by unfold Func.isWrapper; first | (rw [if_pos (by decide +kernel)]; kernel_rfl) | (rw [if_neg (by decide +kernel)]; exact ⟨rfl, rfl⟩))
    (fun os started H enc _ => lifted os started H enc)
theorem proved : Rows.DecodeScriptsCardSaid :=
  Claim7.holds_tied_plain_at .later [] [.wider, .wider] true (true, "9354c7a1c31d7438fcaefba94ebc2cbd8f0fc50fca1618d0e350c51bbdeedbc7") false
    over (fun _ h => by cases h) (by kernel_rfl) (fun _ h => by cases h) decodeScripts_row_tie rfl ⟨rfl, rfl⟩ (by kernel_rfl) rfl
    (fun f fn hf hfn => by
      obtain rfl : f = 9 := Option.some.inj ((show Tryd.prog.funcNamed "rampart/rampartlaw21.DecodeScripts" = some 9 by kernel_rfl).symm.trans hf) |>.symm
      obtain rfl : fn = Tryd.f9 := (Option.some.inj (Tryd.func9.symm.trans hfn)).symm
      exact ⟨by kernel_rfl, fun j t ht => by
        rw [Tryd.params9] at ht
        have hm : t ∈ [28, 67] := by simpa using Array.mem_of_getElem? ht
        have hall : ([28, 67].all fun u => !Tryd.prog.wantsStandIn u) = true := by kernel_rfl
        exact (show Tryd.prog.wantsStandIn t = false by simpa using List.all_eq_true.1 hall t hm)⟩)
    (by kernel_rfl)
#print axioms proved
end Go.Proofs.YtoliipbmcekciaaDoor.decodeScripts
namespace Go.Proofs.YtoliipbmcekciaaDoor
theorem decodeScripts_holds : Rows.DecodeScriptsCardSaid := decodeScripts.proved
end Go.Proofs.YtoliipbmcekciaaDoor
