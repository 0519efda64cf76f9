/-
  No cell of these rows narrows 'for every input' (looked for: loops, veiled, ifaces, maps, wideKeys, modest, calm, conditions, laid).
  DERIVED. THE GIVEN ROWS OF THIS SEAT. 5 by the template 'for every input the law returns true; each argument reads behind the call as it read before'; 0 by the template 'total and deterministic' (their statements: YtooddkaepkjidaaTotals.lean).
  GIVEN WITH THE SEED: the statements are not yours to turn. If you find one false, say at which input.
  Laid BY PROGRAM, IN A SANDBOX (cutbox-rows.mjs): the forced cells as the released guide's own fill.sh prints them over the translation 165afd616c500741… (all of the seat's roots in one cut). By AI agents, Wed Nov 11 2026. No macro, syntax, notation, axiom, sorry.
-/
import Derived.Test.YtooddkaepkjidaaChecked
import GoSem.Claim
import GoSem.ClaimJoined
import GoSem.ClaimMapViews
import Derived.JoinedTies
import Derived.KernelRfl
namespace Go.Proofs.Ytooddkaepkjidaa
/- THE CELL 'sum', in the pinned program and in every row, IS THE sha256 OF THE DUMP (.gsa) THAT YtooddkaepkjidaaProg.lean LOADS. Nothing in Lean hashes anything: it is a label: what it is worth is what the hold of that sum in a sandbox is worth. -/
noncomputable def Try.pinned : Pinned := { name := "ytooddkaepkjidaa", sum := "165afd616c500741d02b6f54b5e16fa2682ecc06bc78ccaaa2ebf346ec1c3b5a", checked := Try.checked }
namespace Rows
def none {H : Type} : Left H := { results := [], args := [] }

/-- 'rampartlaw17.StepNews': WHATEVER THE INPUT: true; the input reads as it did. -/
def stepNewsSpec : ChangeSpec := { name := "stepNews", fn := fun _ => fun
  | [d1, d2, d3, d4] => { results := [.lit (.bool true)], args := [d1, d2, d3, d4] }
  | _ => none }
def stepNewsRow : OpenClaim := { program := "ytooddkaepkjidaa", sum := "165afd616c500741d02b6f54b5e16fa2682ecc06bc78ccaaa2ebf346ec1c3b5a", func := "rampart/rampartlaw17.StepNews", spec := "stepNews", unfollowed := true, recurses := true, apart := false }
def StepNewsSaid : Prop := stepNewsRow.holds Try.pinned (OpenSpec.ofChange stepNewsSpec)

/-- ITS FALSE NEIGHBOUR: 'it returns false'. Refute it at one input. -/
def stepNewsWrong : ChangeSpec := { name := "stepNews", fn := fun _ => fun
  | [d1, d2, d3, d4] => { results := [.lit (.bool false)], args := [d1, d2, d3, d4] }
  | _ => none }
def StepNewsWrongFalsely : Prop := stepNewsRow.holds Try.pinned (OpenSpec.ofChange stepNewsWrong)

/-- 'rampartlaw17.StepDoes': WHATEVER THE INPUT: true; the input reads as it did. -/
def stepDoesSpec : ChangeSpec := { name := "stepDoes", fn := fun _ => fun
  | [d1, d2, d3] => { results := [.lit (.bool true)], args := [d1, d2, d3] }
  | _ => none }
def stepDoesRow : OpenClaim := { program := "ytooddkaepkjidaa", sum := "165afd616c500741d02b6f54b5e16fa2682ecc06bc78ccaaa2ebf346ec1c3b5a", func := "rampart/rampartlaw17.StepDoes", spec := "stepDoes", unfollowed := true, recurses := true, apart := false }
def StepDoesSaid : Prop := stepDoesRow.holds Try.pinned (OpenSpec.ofChange stepDoesSpec)

/-- ITS FALSE NEIGHBOUR: 'it returns false'. Refute it at one input. -/
def stepDoesWrong : ChangeSpec := { name := "stepDoes", fn := fun _ => fun
  | [d1, d2, d3] => { results := [.lit (.bool false)], args := [d1, d2, d3] }
  | _ => none }
def StepDoesWrongFalsely : Prop := stepDoesRow.holds Try.pinned (OpenSpec.ofChange stepDoesWrong)

/-- 'rampartlaw17.StepFinishes': WHATEVER THE INPUT: true; the input reads as it did. -/
def stepFinishesSpec : ChangeSpec := { name := "stepFinishes", fn := fun _ => fun
  | [d1, d2, d3] => { results := [.lit (.bool true)], args := [d1, d2, d3] }
  | _ => none }
def stepFinishesRow : OpenClaim := { program := "ytooddkaepkjidaa", sum := "165afd616c500741d02b6f54b5e16fa2682ecc06bc78ccaaa2ebf346ec1c3b5a", func := "rampart/rampartlaw17.StepFinishes", spec := "stepFinishes", unfollowed := true, recurses := true, apart := false }
def StepFinishesSaid : Prop := stepFinishesRow.holds Try.pinned (OpenSpec.ofChange stepFinishesSpec)

/-- ITS FALSE NEIGHBOUR: 'it returns false'. Refute it at one input. -/
def stepFinishesWrong : ChangeSpec := { name := "stepFinishes", fn := fun _ => fun
  | [d1, d2, d3] => { results := [.lit (.bool false)], args := [d1, d2, d3] }
  | _ => none }
def StepFinishesWrongFalsely : Prop := stepFinishesRow.holds Try.pinned (OpenSpec.ofChange stepFinishesWrong)

/-- 'rampartlaw17.StepFew': WHATEVER THE INPUT: true; the input reads as it did. -/
def stepFewSpec : ChangeSpec := { name := "stepFew", fn := fun _ => fun
  | [d1, d2, d3] => { results := [.lit (.bool true)], args := [d1, d2, d3] }
  | _ => none }
def stepFewRow : OpenClaim := { program := "ytooddkaepkjidaa", sum := "165afd616c500741d02b6f54b5e16fa2682ecc06bc78ccaaa2ebf346ec1c3b5a", func := "rampart/rampartlaw17.StepFew", spec := "stepFew", unfollowed := true, recurses := true, apart := false }
def StepFewSaid : Prop := stepFewRow.holds Try.pinned (OpenSpec.ofChange stepFewSpec)

/-- ITS FALSE NEIGHBOUR: 'it returns false'. Refute it at one input. -/
def stepFewWrong : ChangeSpec := { name := "stepFew", fn := fun _ => fun
  | [d1, d2, d3] => { results := [.lit (.bool false)], args := [d1, d2, d3] }
  | _ => none }
def StepFewWrongFalsely : Prop := stepFewRow.holds Try.pinned (OpenSpec.ofChange stepFewWrong)

/-- 'rampartlaw17.StepNobody': WHATEVER THE INPUT: true; the input reads as it did. -/
def stepNobodySpec : ChangeSpec := { name := "stepNobody", fn := fun _ => fun
  | [d1, d2] => { results := [.lit (.bool true)], args := [d1, d2] }
  | _ => none }
def stepNobodyRow : OpenClaim := { program := "ytooddkaepkjidaa", sum := "165afd616c500741d02b6f54b5e16fa2682ecc06bc78ccaaa2ebf346ec1c3b5a", func := "rampart/rampartlaw17.StepNobody", spec := "stepNobody", unfollowed := true, recurses := true, apart := false }
def StepNobodySaid : Prop := stepNobodyRow.holds Try.pinned (OpenSpec.ofChange stepNobodySpec)

/-- ITS FALSE NEIGHBOUR: 'it returns false'. Refute it at one input. -/
def stepNobodyWrong : ChangeSpec := { name := "stepNobody", fn := fun _ => fun
  | [d1, d2] => { results := [.lit (.bool false)], args := [d1, d2] }
  | _ => none }
def StepNobodyWrongFalsely : Prop := stepNobodyRow.holds Try.pinned (OpenSpec.ofChange stepNobodyWrong)

/- THE SECOND FORM. 'bulk': how many values and letters a reading holds, each counted each time it is reached (what is shared counts as often as it is met; a slice's spare places count too). A statement '..UptoSaid' is the law's where the arguments, and the package variables that the reading takes, are together of bulk at most 1048576: NARROWER than '..Said'. Prove '..Said' where nothing that the law and all that it calls make is longer than what came in: it says more and counts as full. Else prove '..UptoSaid'. A law counts once. -/
mutual
def uptoBulk {H : Type} : DataW H → Nat
  | .lit (.string bytes) => bytes.length + 1
  | .lit _ => 1
  | .nil => 1
  | .ptr d => uptoBulk d + 1
  | .slice elems spare => uptoBulkAll elems + uptoBulkAll spare + 1
  | .agg parts => uptoBulkAll parts + 1
  | .iface _ d => uptoBulk d + 1
  | .map entries => uptoBulkEntries entries + 1
  | .held _ => 1
def uptoBulkAll {H : Type} : List (DataW H) → Nat
  | [] => 0
  | d :: r => uptoBulk d + uptoBulkAll r
def uptoBulkEntries {H : Type} : List (Lit × DataW H) → Nat
  | [] => 0
  | x :: r => uptoBulkEntry x + uptoBulkEntries r
def uptoBulkEntry {H : Type} : Lit × DataW H → Nat
  | (.string bytes, d) => bytes.length + uptoBulk d + 1
  | (_, d) => uptoBulk d + 1
 end
def uptoSmall : (H : Type) → List (DataW H) → Bool := fun _ ds => decide (uptoBulkAll ds ≤ 1048576)
def OpenSpec.upto (s : _root_.Go.ChangeSpec) : _root_.Go.OpenSpec := { _root_.Go.OpenSpec.ofChange s with cond := some uptoSmall }

/-- 'rampartlaw17.StepNews', WHERE WHAT IT READS IS OF BULK AT MOST 1048576: true; the input reads as it did. -/
def stepNewsUptoRow : OpenClaim := { program := "ytooddkaepkjidaa", sum := "165afd616c500741d02b6f54b5e16fa2682ecc06bc78ccaaa2ebf346ec1c3b5a", func := "rampart/rampartlaw17.StepNews", spec := "stepNews", unfollowed := true, recurses := true, apart := false, narrowed := true }
def StepNewsUptoSaid : Prop := stepNewsUptoRow.holds Try.pinned (OpenSpec.upto stepNewsSpec)

/-- 'rampartlaw17.StepDoes', WHERE WHAT IT READS IS OF BULK AT MOST 1048576: true; the input reads as it did. -/
def stepDoesUptoRow : OpenClaim := { program := "ytooddkaepkjidaa", sum := "165afd616c500741d02b6f54b5e16fa2682ecc06bc78ccaaa2ebf346ec1c3b5a", func := "rampart/rampartlaw17.StepDoes", spec := "stepDoes", unfollowed := true, recurses := true, apart := false, narrowed := true }
def StepDoesUptoSaid : Prop := stepDoesUptoRow.holds Try.pinned (OpenSpec.upto stepDoesSpec)

/-- 'rampartlaw17.StepFinishes', WHERE WHAT IT READS IS OF BULK AT MOST 1048576: true; the input reads as it did. -/
def stepFinishesUptoRow : OpenClaim := { program := "ytooddkaepkjidaa", sum := "165afd616c500741d02b6f54b5e16fa2682ecc06bc78ccaaa2ebf346ec1c3b5a", func := "rampart/rampartlaw17.StepFinishes", spec := "stepFinishes", unfollowed := true, recurses := true, apart := false, narrowed := true }
def StepFinishesUptoSaid : Prop := stepFinishesUptoRow.holds Try.pinned (OpenSpec.upto stepFinishesSpec)

/-- 'rampartlaw17.StepFew', WHERE WHAT IT READS IS OF BULK AT MOST 1048576: true; the input reads as it did. -/
def stepFewUptoRow : OpenClaim := { program := "ytooddkaepkjidaa", sum := "165afd616c500741d02b6f54b5e16fa2682ecc06bc78ccaaa2ebf346ec1c3b5a", func := "rampart/rampartlaw17.StepFew", spec := "stepFew", unfollowed := true, recurses := true, apart := false, narrowed := true }
def StepFewUptoSaid : Prop := stepFewUptoRow.holds Try.pinned (OpenSpec.upto stepFewSpec)

/-- 'rampartlaw17.StepNobody', WHERE WHAT IT READS IS OF BULK AT MOST 1048576: true; the input reads as it did. -/
def stepNobodyUptoRow : OpenClaim := { program := "ytooddkaepkjidaa", sum := "165afd616c500741d02b6f54b5e16fa2682ecc06bc78ccaaa2ebf346ec1c3b5a", func := "rampart/rampartlaw17.StepNobody", spec := "stepNobody", unfollowed := true, recurses := true, apart := false, narrowed := true }
def StepNobodyUptoSaid : Prop := stepNobodyUptoRow.holds Try.pinned (OpenSpec.upto stepNobodySpec)

end Rows
end Go.Proofs.Ytooddkaepkjidaa
