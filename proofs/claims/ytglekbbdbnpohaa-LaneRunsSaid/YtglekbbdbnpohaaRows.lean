/-
  No cell of these rows narrows 'for every input' (looked for: loops, veiled, ifaces, maps, wideKeys, modest, calm, conditions, laid).
  DERIVED. THE GIVEN ROWS OF THIS SEAT. 6 by the template 'for every input the law returns true; each argument reads behind the call as it read before'; 0 by the template 'total and deterministic' (their statements: YtglekbbdbnpohaaTotals.lean).
  GIVEN WITH THE SEED: the statements are not yours to turn. If you find one false, say at which input.
  Laid BY PROGRAM, IN A SANDBOX (cutbox-rows.mjs): the forced cells as the released guide's own fill.sh prints them over the translation c8a7bec8ef75bb4f… (all of the seat's roots in one cut). By AI agents, Wed Nov 11 2026. No macro, syntax, notation, axiom, sorry.
-/
import Derived.Test.YtglekbbdbnpohaaChecked
import GoSem.Claim
import GoSem.ClaimJoined
import GoSem.ClaimMapViews
import Derived.JoinedTies
import Derived.KernelRfl
namespace Go.Proofs.Ytglekbbdbnpohaa
/- THE CELL 'sum', in the pinned program and in every row, IS THE sha256 OF THE DUMP (.gsa) THAT YtglekbbdbnpohaaProg.lean LOADS. Nothing in Lean hashes anything: it is a label: what it is worth is what the hold of that sum in a sandbox is worth. -/
noncomputable def Try.pinned : Pinned := { name := "ytglekbbdbnpohaa", sum := "c8a7bec8ef75bb4f979f319ce9a0d1e09992efdfd56ba21a48825cf0d7853826", checked := Try.checked }
namespace Rows
def none {H : Type} : Left H := { results := [], args := [] }

/-- 'rampartlaw08.LaneRuns': WHATEVER THE INPUT: true; the input reads as it did. -/
def laneRunsSpec : ChangeSpec := { name := "laneRuns", fn := fun _ => fun
  | [d1, d2, d3, d4] => { results := [.lit (.bool true)], args := [d1, d2, d3, d4] }
  | _ => none }
def laneRunsRow : OpenClaim := { program := "ytglekbbdbnpohaa", sum := "c8a7bec8ef75bb4f979f319ce9a0d1e09992efdfd56ba21a48825cf0d7853826", func := "rampart/rampartlaw08.LaneRuns", spec := "laneRuns", unfollowed := true, recurses := true, apart := false }
def LaneRunsSaid : Prop := laneRunsRow.holds Try.pinned (OpenSpec.ofChange laneRunsSpec)

/-- ITS FALSE NEIGHBOUR: 'it returns false'. Refute it at one input. -/
def laneRunsWrong : ChangeSpec := { name := "laneRuns", fn := fun _ => fun
  | [d1, d2, d3, d4] => { results := [.lit (.bool false)], args := [d1, d2, d3, d4] }
  | _ => none }
def LaneRunsWrongFalsely : Prop := laneRunsRow.holds Try.pinned (OpenSpec.ofChange laneRunsWrong)

/-- 'rampartlaw08.LaneQueue': WHATEVER THE INPUT: true; the input reads as it did. -/
def laneQueueSpec : ChangeSpec := { name := "laneQueue", fn := fun _ => fun
  | [d1, d2, d3, d4] => { results := [.lit (.bool true)], args := [d1, d2, d3, d4] }
  | _ => none }
def laneQueueRow : OpenClaim := { program := "ytglekbbdbnpohaa", sum := "c8a7bec8ef75bb4f979f319ce9a0d1e09992efdfd56ba21a48825cf0d7853826", func := "rampart/rampartlaw08.LaneQueue", spec := "laneQueue", unfollowed := true, recurses := true, apart := false }
def LaneQueueSaid : Prop := laneQueueRow.holds Try.pinned (OpenSpec.ofChange laneQueueSpec)

/-- ITS FALSE NEIGHBOUR: 'it returns false'. Refute it at one input. -/
def laneQueueWrong : ChangeSpec := { name := "laneQueue", fn := fun _ => fun
  | [d1, d2, d3, d4] => { results := [.lit (.bool false)], args := [d1, d2, d3, d4] }
  | _ => none }
def LaneQueueWrongFalsely : Prop := laneQueueRow.holds Try.pinned (OpenSpec.ofChange laneQueueWrong)

/-- 'rampartlaw08.LaneCredit': WHATEVER THE INPUT: true; the input reads as it did. -/
def laneCreditSpec : ChangeSpec := { name := "laneCredit", fn := fun _ => fun
  | [d1, d2, d3, d4] => { results := [.lit (.bool true)], args := [d1, d2, d3, d4] }
  | _ => none }
def laneCreditRow : OpenClaim := { program := "ytglekbbdbnpohaa", sum := "c8a7bec8ef75bb4f979f319ce9a0d1e09992efdfd56ba21a48825cf0d7853826", func := "rampart/rampartlaw08.LaneCredit", spec := "laneCredit", unfollowed := true, recurses := true, apart := false }
def LaneCreditSaid : Prop := laneCreditRow.holds Try.pinned (OpenSpec.ofChange laneCreditSpec)

/-- ITS FALSE NEIGHBOUR: 'it returns false'. Refute it at one input. -/
def laneCreditWrong : ChangeSpec := { name := "laneCredit", fn := fun _ => fun
  | [d1, d2, d3, d4] => { results := [.lit (.bool false)], args := [d1, d2, d3, d4] }
  | _ => none }
def LaneCreditWrongFalsely : Prop := laneCreditRow.holds Try.pinned (OpenSpec.ofChange laneCreditWrong)

/-- 'rampartlaw08.LaneOneWay': WHATEVER THE INPUT: true; the input reads as it did. -/
def laneOneWaySpec : ChangeSpec := { name := "laneOneWay", fn := fun _ => fun
  | [d1, d2, d3] => { results := [.lit (.bool true)], args := [d1, d2, d3] }
  | _ => none }
def laneOneWayRow : OpenClaim := { program := "ytglekbbdbnpohaa", sum := "c8a7bec8ef75bb4f979f319ce9a0d1e09992efdfd56ba21a48825cf0d7853826", func := "rampart/rampartlaw08.LaneOneWay", spec := "laneOneWay", unfollowed := true, recurses := true, apart := false }
def LaneOneWaySaid : Prop := laneOneWayRow.holds Try.pinned (OpenSpec.ofChange laneOneWaySpec)

/-- ITS FALSE NEIGHBOUR: 'it returns false'. Refute it at one input. -/
def laneOneWayWrong : ChangeSpec := { name := "laneOneWay", fn := fun _ => fun
  | [d1, d2, d3] => { results := [.lit (.bool false)], args := [d1, d2, d3] }
  | _ => none }
def LaneOneWayWrongFalsely : Prop := laneOneWayRow.holds Try.pinned (OpenSpec.ofChange laneOneWayWrong)

/-- 'rampartlaw08.LaneWraps': WHATEVER THE INPUT: true; the input reads as it did. -/
def laneWrapsSpec : ChangeSpec := { name := "laneWraps", fn := fun _ => fun
  | [d1, d2, d3, d4] => { results := [.lit (.bool true)], args := [d1, d2, d3, d4] }
  | _ => none }
def laneWrapsRow : OpenClaim := { program := "ytglekbbdbnpohaa", sum := "c8a7bec8ef75bb4f979f319ce9a0d1e09992efdfd56ba21a48825cf0d7853826", func := "rampart/rampartlaw08.LaneWraps", spec := "laneWraps", unfollowed := true, recurses := true, apart := false }
def LaneWrapsSaid : Prop := laneWrapsRow.holds Try.pinned (OpenSpec.ofChange laneWrapsSpec)

/-- ITS FALSE NEIGHBOUR: 'it returns false'. Refute it at one input. -/
def laneWrapsWrong : ChangeSpec := { name := "laneWraps", fn := fun _ => fun
  | [d1, d2, d3, d4] => { results := [.lit (.bool false)], args := [d1, d2, d3, d4] }
  | _ => none }
def LaneWrapsWrongFalsely : Prop := laneWrapsRow.holds Try.pinned (OpenSpec.ofChange laneWrapsWrong)

/-- 'rampartlaw08.LaneNobody': WHATEVER THE INPUT: true; the input reads as it did. -/
def laneNobodySpec : ChangeSpec := { name := "laneNobody", fn := fun _ => fun
  | [d] => { results := [.lit (.bool true)], args := [d] }
  | _ => none }
def laneNobodyRow : OpenClaim := { program := "ytglekbbdbnpohaa", sum := "c8a7bec8ef75bb4f979f319ce9a0d1e09992efdfd56ba21a48825cf0d7853826", func := "rampart/rampartlaw08.LaneNobody", spec := "laneNobody", unfollowed := true, recurses := true, apart := false }
def LaneNobodySaid : Prop := laneNobodyRow.holds Try.pinned (OpenSpec.ofChange laneNobodySpec)

/-- ITS FALSE NEIGHBOUR: 'it returns false'. Refute it at one input. -/
def laneNobodyWrong : ChangeSpec := { name := "laneNobody", fn := fun _ => fun
  | [d] => { results := [.lit (.bool false)], args := [d] }
  | _ => none }
def LaneNobodyWrongFalsely : Prop := laneNobodyRow.holds Try.pinned (OpenSpec.ofChange laneNobodyWrong)

/- THE SECOND FORM. 'bulk': how many values and letters a reading holds, each counted each time it is reached (what is shared counts as often as it is met; a slice's spare places count too). A statement '..UptoSaid' is the law's where the arguments, and the package variables that the reading takes, are together of bulk at most 1048576: NARROWER than '..Said'. Prove '..Said' where nothing that the law and all that it calls make is longer than what came in: it says more and counts as full. Else prove '..UptoSaid'. A law counts once. -/
mutual
def uptoBulk {H : Type} : DataW H → Nat
  | .lit (.string bytes) => bytes.length + 1
  | .lit _ => 1
  | .nil => 1
  | .ptr d => uptoBulk d + 1
  | .slice elems spare => uptoBulkAll elems + uptoBulkAll spare + 1
  | .agg parts => uptoBulkAll parts + 1
  | .iface _ d => uptoBulk d + 1
  | .map entries => uptoBulkEntries entries + 1
  | .held _ => 1
def uptoBulkAll {H : Type} : List (DataW H) → Nat
  | [] => 0
  | d :: r => uptoBulk d + uptoBulkAll r
def uptoBulkEntries {H : Type} : List (Lit × DataW H) → Nat
  | [] => 0
  | x :: r => uptoBulkEntry x + uptoBulkEntries r
def uptoBulkEntry {H : Type} : Lit × DataW H → Nat
  | (.string bytes, d) => bytes.length + uptoBulk d + 1
  | (_, d) => uptoBulk d + 1
 end
def uptoSmall : (H : Type) → List (DataW H) → Bool := fun _ ds => decide (uptoBulkAll ds ≤ 1048576)
def OpenSpec.upto (s : _root_.Go.ChangeSpec) : _root_.Go.OpenSpec := { _root_.Go.OpenSpec.ofChange s with cond := some uptoSmall }

/-- 'rampartlaw08.LaneRuns', WHERE WHAT IT READS IS OF BULK AT MOST 1048576: true; the input reads as it did. -/
def laneRunsUptoRow : OpenClaim := { program := "ytglekbbdbnpohaa", sum := "c8a7bec8ef75bb4f979f319ce9a0d1e09992efdfd56ba21a48825cf0d7853826", func := "rampart/rampartlaw08.LaneRuns", spec := "laneRuns", unfollowed := true, recurses := true, apart := false, narrowed := true }
def LaneRunsUptoSaid : Prop := laneRunsUptoRow.holds Try.pinned (OpenSpec.upto laneRunsSpec)

/-- 'rampartlaw08.LaneQueue', WHERE WHAT IT READS IS OF BULK AT MOST 1048576: true; the input reads as it did. -/
def laneQueueUptoRow : OpenClaim := { program := "ytglekbbdbnpohaa", sum := "c8a7bec8ef75bb4f979f319ce9a0d1e09992efdfd56ba21a48825cf0d7853826", func := "rampart/rampartlaw08.LaneQueue", spec := "laneQueue", unfollowed := true, recurses := true, apart := false, narrowed := true }
def LaneQueueUptoSaid : Prop := laneQueueUptoRow.holds Try.pinned (OpenSpec.upto laneQueueSpec)

/-- 'rampartlaw08.LaneCredit', WHERE WHAT IT READS IS OF BULK AT MOST 1048576: true; the input reads as it did. -/
def laneCreditUptoRow : OpenClaim := { program := "ytglekbbdbnpohaa", sum := "c8a7bec8ef75bb4f979f319ce9a0d1e09992efdfd56ba21a48825cf0d7853826", func := "rampart/rampartlaw08.LaneCredit", spec := "laneCredit", unfollowed := true, recurses := true, apart := false, narrowed := true }
def LaneCreditUptoSaid : Prop := laneCreditUptoRow.holds Try.pinned (OpenSpec.upto laneCreditSpec)

/-- 'rampartlaw08.LaneOneWay', WHERE WHAT IT READS IS OF BULK AT MOST 1048576: true; the input reads as it did. -/
def laneOneWayUptoRow : OpenClaim := { program := "ytglekbbdbnpohaa", sum := "c8a7bec8ef75bb4f979f319ce9a0d1e09992efdfd56ba21a48825cf0d7853826", func := "rampart/rampartlaw08.LaneOneWay", spec := "laneOneWay", unfollowed := true, recurses := true, apart := false, narrowed := true }
def LaneOneWayUptoSaid : Prop := laneOneWayUptoRow.holds Try.pinned (OpenSpec.upto laneOneWaySpec)

/-- 'rampartlaw08.LaneWraps', WHERE WHAT IT READS IS OF BULK AT MOST 1048576: true; the input reads as it did. -/
def laneWrapsUptoRow : OpenClaim := { program := "ytglekbbdbnpohaa", sum := "c8a7bec8ef75bb4f979f319ce9a0d1e09992efdfd56ba21a48825cf0d7853826", func := "rampart/rampartlaw08.LaneWraps", spec := "laneWraps", unfollowed := true, recurses := true, apart := false, narrowed := true }
def LaneWrapsUptoSaid : Prop := laneWrapsUptoRow.holds Try.pinned (OpenSpec.upto laneWrapsSpec)

/-- 'rampartlaw08.LaneNobody', WHERE WHAT IT READS IS OF BULK AT MOST 1048576: true; the input reads as it did. -/
def laneNobodyUptoRow : OpenClaim := { program := "ytglekbbdbnpohaa", sum := "c8a7bec8ef75bb4f979f319ce9a0d1e09992efdfd56ba21a48825cf0d7853826", func := "rampart/rampartlaw08.LaneNobody", spec := "laneNobody", unfollowed := true, recurses := true, apart := false, narrowed := true }
def LaneNobodyUptoSaid : Prop := laneNobodyUptoRow.holds Try.pinned (OpenSpec.upto laneNobodySpec)

end Rows
end Go.Proofs.Ytglekbbdbnpohaa
