/-
  No cell of these rows narrows 'for every input' (looked for: loops, veiled, ifaces, maps, wideKeys, modest, calm, conditions, laid).
  DERIVED. THE GIVEN ROWS OF THIS SEAT. 5 by the template 'for every input the law returns true; each argument reads behind the call as it read before'; 0 by the template 'total and deterministic' (their statements: YthjppjcmapgkpaaTotals.lean).
  GIVEN WITH THE SEED: the statements are not yours to turn. If you find one false, say at which input.
  Laid BY PROGRAM, IN A SANDBOX (cutbox-rows.mjs): the forced cells as the released guide's own fill.sh prints them over the translation 6f9f8164e1262d40… (all of the seat's roots in one cut). By AI agents, Wed Nov 11 2026. No macro, syntax, notation, axiom, sorry.
-/
import Derived.Test.YthjppjcmapgkpaaChecked
import GoSem.Claim
import GoSem.ClaimJoined
import GoSem.ClaimMapViews
import Derived.JoinedTies
import Derived.KernelRfl
namespace Go.Proofs.Ythjppjcmapgkpaa
/- THE CELL 'sum', in the pinned program and in every row, IS THE sha256 OF THE DUMP (.gsa) THAT YthjppjcmapgkpaaProg.lean LOADS. Nothing in Lean hashes anything: it is a label: what it is worth is what the hold of that sum in a sandbox is worth. -/
noncomputable def Try.pinned : Pinned := { name := "ythjppjcmapgkpaa", sum := "6f9f8164e1262d402808f68c757a38817273ca0434750bfc17a5d8e18c1fb6bc", checked := Try.checked }
namespace Rows
def none {H : Type} : Left H := { results := [], args := [] }

/-- 'rampartlaw09.AgendaAll': WHATEVER THE INPUT: true; the input reads as it did. -/
def agendaAllSpec : ChangeSpec := { name := "agendaAll", fn := fun _ => fun
  | [d] => { results := [.lit (.bool true)], args := [d] }
  | _ => none }
def agendaAllRow : OpenClaim := { program := "ythjppjcmapgkpaa", sum := "6f9f8164e1262d402808f68c757a38817273ca0434750bfc17a5d8e18c1fb6bc", func := "rampart/rampartlaw09.AgendaAll", spec := "agendaAll", unfollowed := true, recurses := true, apart := false }
def AgendaAllSaid : Prop := agendaAllRow.holds Try.pinned (OpenSpec.ofChange agendaAllSpec)

/-- ITS FALSE NEIGHBOUR: 'it returns false'. Refute it at one input. -/
def agendaAllWrong : ChangeSpec := { name := "agendaAll", fn := fun _ => fun
  | [d] => { results := [.lit (.bool false)], args := [d] }
  | _ => none }
def AgendaAllWrongFalsely : Prop := agendaAllRow.holds Try.pinned (OpenSpec.ofChange agendaAllWrong)

/-- 'rampartlaw09.AgendaEnds': WHATEVER THE INPUT: true; the input reads as it did. -/
def agendaEndsSpec : ChangeSpec := { name := "agendaEnds", fn := fun _ => fun
  | [d1, d2] => { results := [.lit (.bool true)], args := [d1, d2] }
  | _ => none }
def agendaEndsRow : OpenClaim := { program := "ythjppjcmapgkpaa", sum := "6f9f8164e1262d402808f68c757a38817273ca0434750bfc17a5d8e18c1fb6bc", func := "rampart/rampartlaw09.AgendaEnds", spec := "agendaEnds", unfollowed := true, recurses := true, apart := false }
def AgendaEndsSaid : Prop := agendaEndsRow.holds Try.pinned (OpenSpec.ofChange agendaEndsSpec)

/-- ITS FALSE NEIGHBOUR: 'it returns false'. Refute it at one input. -/
def agendaEndsWrong : ChangeSpec := { name := "agendaEnds", fn := fun _ => fun
  | [d1, d2] => { results := [.lit (.bool false)], args := [d1, d2] }
  | _ => none }
def AgendaEndsWrongFalsely : Prop := agendaEndsRow.holds Try.pinned (OpenSpec.ofChange agendaEndsWrong)

/-- 'rampartlaw09.AgendaRuns': WHATEVER THE INPUT: true; the input reads as it did. -/
def agendaRunsSpec : ChangeSpec := { name := "agendaRuns", fn := fun _ => fun
  | [d] => { results := [.lit (.bool true)], args := [d] }
  | _ => none }
def agendaRunsRow : OpenClaim := { program := "ythjppjcmapgkpaa", sum := "6f9f8164e1262d402808f68c757a38817273ca0434750bfc17a5d8e18c1fb6bc", func := "rampart/rampartlaw09.AgendaRuns", spec := "agendaRuns", unfollowed := true, recurses := true, apart := false }
def AgendaRunsSaid : Prop := agendaRunsRow.holds Try.pinned (OpenSpec.ofChange agendaRunsSpec)

/-- ITS FALSE NEIGHBOUR: 'it returns false'. Refute it at one input. -/
def agendaRunsWrong : ChangeSpec := { name := "agendaRuns", fn := fun _ => fun
  | [d] => { results := [.lit (.bool false)], args := [d] }
  | _ => none }
def AgendaRunsWrongFalsely : Prop := agendaRunsRow.holds Try.pinned (OpenSpec.ofChange agendaRunsWrong)

/-- 'rampartlaw09.AgendaOrders': WHATEVER THE INPUT: true; the input reads as it did. -/
def agendaOrdersSpec : ChangeSpec := { name := "agendaOrders", fn := fun _ => fun
  | [d] => { results := [.lit (.bool true)], args := [d] }
  | _ => none }
def agendaOrdersRow : OpenClaim := { program := "ythjppjcmapgkpaa", sum := "6f9f8164e1262d402808f68c757a38817273ca0434750bfc17a5d8e18c1fb6bc", func := "rampart/rampartlaw09.AgendaOrders", spec := "agendaOrders", unfollowed := true, recurses := true, apart := false }
def AgendaOrdersSaid : Prop := agendaOrdersRow.holds Try.pinned (OpenSpec.ofChange agendaOrdersSpec)

/-- ITS FALSE NEIGHBOUR: 'it returns false'. Refute it at one input. -/
def agendaOrdersWrong : ChangeSpec := { name := "agendaOrders", fn := fun _ => fun
  | [d] => { results := [.lit (.bool false)], args := [d] }
  | _ => none }
def AgendaOrdersWrongFalsely : Prop := agendaOrdersRow.holds Try.pinned (OpenSpec.ofChange agendaOrdersWrong)

/-- 'rampartlaw09.AgendaNobody': WHATEVER THE INPUT: true; the input reads as it did. -/
def agendaNobodySpec : ChangeSpec := { name := "agendaNobody", fn := fun _ => fun
  | [d] => { results := [.lit (.bool true)], args := [d] }
  | _ => none }
def agendaNobodyRow : OpenClaim := { program := "ythjppjcmapgkpaa", sum := "6f9f8164e1262d402808f68c757a38817273ca0434750bfc17a5d8e18c1fb6bc", func := "rampart/rampartlaw09.AgendaNobody", spec := "agendaNobody", unfollowed := true, recurses := true, apart := false }
def AgendaNobodySaid : Prop := agendaNobodyRow.holds Try.pinned (OpenSpec.ofChange agendaNobodySpec)

/-- ITS FALSE NEIGHBOUR: 'it returns false'. Refute it at one input. -/
def agendaNobodyWrong : ChangeSpec := { name := "agendaNobody", fn := fun _ => fun
  | [d] => { results := [.lit (.bool false)], args := [d] }
  | _ => none }
def AgendaNobodyWrongFalsely : Prop := agendaNobodyRow.holds Try.pinned (OpenSpec.ofChange agendaNobodyWrong)

/- THE SECOND FORM. 'bulk': how many values and letters a reading holds, each counted each time it is reached (what is shared counts as often as it is met; a slice's spare places count too). A statement '..UptoSaid' is the law's where the arguments, and the package variables that the reading takes, are together of bulk at most 1048576: NARROWER than '..Said'. Prove '..Said' where nothing that the law and all that it calls make is longer than what came in: it says more and counts as full. Else prove '..UptoSaid'. A law counts once. -/
mutual
def uptoBulk {H : Type} : DataW H → Nat
  | .lit (.string bytes) => bytes.length + 1
  | .lit _ => 1
  | .nil => 1
  | .ptr d => uptoBulk d + 1
  | .slice elems spare => uptoBulkAll elems + uptoBulkAll spare + 1
  | .agg parts => uptoBulkAll parts + 1
  | .iface _ d => uptoBulk d + 1
  | .map entries => uptoBulkEntries entries + 1
  | .held _ => 1
def uptoBulkAll {H : Type} : List (DataW H) → Nat
  | [] => 0
  | d :: r => uptoBulk d + uptoBulkAll r
def uptoBulkEntries {H : Type} : List (Lit × DataW H) → Nat
  | [] => 0
  | x :: r => uptoBulkEntry x + uptoBulkEntries r
def uptoBulkEntry {H : Type} : Lit × DataW H → Nat
  | (.string bytes, d) => bytes.length + uptoBulk d + 1
  | (_, d) => uptoBulk d + 1
 end
def uptoSmall : (H : Type) → List (DataW H) → Bool := fun _ ds => decide (uptoBulkAll ds ≤ 1048576)
def OpenSpec.upto (s : _root_.Go.ChangeSpec) : _root_.Go.OpenSpec := { _root_.Go.OpenSpec.ofChange s with cond := some uptoSmall }

/-- 'rampartlaw09.AgendaAll', WHERE WHAT IT READS IS OF BULK AT MOST 1048576: true; the input reads as it did. -/
def agendaAllUptoRow : OpenClaim := { program := "ythjppjcmapgkpaa", sum := "6f9f8164e1262d402808f68c757a38817273ca0434750bfc17a5d8e18c1fb6bc", func := "rampart/rampartlaw09.AgendaAll", spec := "agendaAll", unfollowed := true, recurses := true, apart := false, narrowed := true }
def AgendaAllUptoSaid : Prop := agendaAllUptoRow.holds Try.pinned (OpenSpec.upto agendaAllSpec)

/-- 'rampartlaw09.AgendaEnds', WHERE WHAT IT READS IS OF BULK AT MOST 1048576: true; the input reads as it did. -/
def agendaEndsUptoRow : OpenClaim := { program := "ythjppjcmapgkpaa", sum := "6f9f8164e1262d402808f68c757a38817273ca0434750bfc17a5d8e18c1fb6bc", func := "rampart/rampartlaw09.AgendaEnds", spec := "agendaEnds", unfollowed := true, recurses := true, apart := false, narrowed := true }
def AgendaEndsUptoSaid : Prop := agendaEndsUptoRow.holds Try.pinned (OpenSpec.upto agendaEndsSpec)

/-- 'rampartlaw09.AgendaRuns', WHERE WHAT IT READS IS OF BULK AT MOST 1048576: true; the input reads as it did. -/
def agendaRunsUptoRow : OpenClaim := { program := "ythjppjcmapgkpaa", sum := "6f9f8164e1262d402808f68c757a38817273ca0434750bfc17a5d8e18c1fb6bc", func := "rampart/rampartlaw09.AgendaRuns", spec := "agendaRuns", unfollowed := true, recurses := true, apart := false, narrowed := true }
def AgendaRunsUptoSaid : Prop := agendaRunsUptoRow.holds Try.pinned (OpenSpec.upto agendaRunsSpec)

/-- 'rampartlaw09.AgendaOrders', WHERE WHAT IT READS IS OF BULK AT MOST 1048576: true; the input reads as it did. -/
def agendaOrdersUptoRow : OpenClaim := { program := "ythjppjcmapgkpaa", sum := "6f9f8164e1262d402808f68c757a38817273ca0434750bfc17a5d8e18c1fb6bc", func := "rampart/rampartlaw09.AgendaOrders", spec := "agendaOrders", unfollowed := true, recurses := true, apart := false, narrowed := true }
def AgendaOrdersUptoSaid : Prop := agendaOrdersUptoRow.holds Try.pinned (OpenSpec.upto agendaOrdersSpec)

/-- 'rampartlaw09.AgendaNobody', WHERE WHAT IT READS IS OF BULK AT MOST 1048576: true; the input reads as it did. -/
def agendaNobodyUptoRow : OpenClaim := { program := "ythjppjcmapgkpaa", sum := "6f9f8164e1262d402808f68c757a38817273ca0434750bfc17a5d8e18c1fb6bc", func := "rampart/rampartlaw09.AgendaNobody", spec := "agendaNobody", unfollowed := true, recurses := true, apart := false, narrowed := true }
def AgendaNobodyUptoSaid : Prop := agendaNobodyUptoRow.holds Try.pinned (OpenSpec.upto agendaNobodySpec)

end Rows
end Go.Proofs.Ythjppjcmapgkpaa
