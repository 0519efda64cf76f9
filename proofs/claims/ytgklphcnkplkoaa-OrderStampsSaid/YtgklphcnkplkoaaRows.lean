/-
  No cell of these rows narrows 'for every input' (looked for: loops, veiled, ifaces, maps, wideKeys, modest, calm, conditions, laid).
  DERIVED. THE GIVEN ROWS OF THIS SEAT. 7 by the template 'for every input the law returns true; each argument reads behind the call as it read before'; 0 by the template 'total and deterministic' (their statements: YtgklphcnkplkoaaTotals.lean).
  GIVEN WITH THE SEED: the statements are not yours to turn. If you find one false, say at which input.
  Laid BY PROGRAM, IN A SANDBOX (cutbox-rows.mjs): the forced cells as the released guide's own fill.sh prints them over the translation 2e8701e105a7a403… (all of the seat's roots in one cut). By AI agents, Wed Nov 11 2026. No macro, syntax, notation, axiom, sorry.
-/
import Derived.Test.YtgklphcnkplkoaaChecked
import GoSem.Claim
import GoSem.ClaimJoined
import GoSem.ClaimMapViews
import Derived.JoinedTies
import Derived.KernelRfl
namespace Go.Proofs.Ytgklphcnkplkoaa
/- THE CELL 'sum', in the pinned program and in every row, IS THE sha256 OF THE DUMP (.gsa) THAT YtgklphcnkplkoaaProg.lean LOADS. Nothing in Lean hashes anything: it is a label: what it is worth is what the hold of that sum in a sandbox is worth. -/
noncomputable def Try.pinned : Pinned := { name := "ytgklphcnkplkoaa", sum := "2e8701e105a7a40320fe51ac70be4bcc26e0c136db3def533d10c0806980d604", checked := Try.checked }
namespace Rows
def none {H : Type} : Left H := { results := [], args := [] }

/-- 'rampartlaw07.OrderTotal': WHATEVER THE INPUT: true; the input reads as it did. -/
def orderTotalSpec : ChangeSpec := { name := "orderTotal", fn := fun _ => fun
  | [d1, d2, d3, d4] => { results := [.lit (.bool true)], args := [d1, d2, d3, d4] }
  | _ => none }
def orderTotalRow : OpenClaim := { program := "ytgklphcnkplkoaa", sum := "2e8701e105a7a40320fe51ac70be4bcc26e0c136db3def533d10c0806980d604", func := "rampart/rampartlaw07.OrderTotal", spec := "orderTotal", apart := false }
def OrderTotalSaid : Prop := orderTotalRow.holds Try.pinned (OpenSpec.ofChange orderTotalSpec)

/-- ITS FALSE NEIGHBOUR: 'it returns false'. Refute it at one input. -/
def orderTotalWrong : ChangeSpec := { name := "orderTotal", fn := fun _ => fun
  | [d1, d2, d3, d4] => { results := [.lit (.bool false)], args := [d1, d2, d3, d4] }
  | _ => none }
def OrderTotalWrongFalsely : Prop := orderTotalRow.holds Try.pinned (OpenSpec.ofChange orderTotalWrong)

/-- 'rampartlaw07.OrderWraps': WHATEVER THE INPUT: true; the input reads as it did. -/
def orderWrapsSpec : ChangeSpec := { name := "orderWraps", fn := fun _ => fun
  | [d1, d2, d3] => { results := [.lit (.bool true)], args := [d1, d2, d3] }
  | _ => none }
def orderWrapsRow : OpenClaim := { program := "ytgklphcnkplkoaa", sum := "2e8701e105a7a40320fe51ac70be4bcc26e0c136db3def533d10c0806980d604", func := "rampart/rampartlaw07.OrderWraps", spec := "orderWraps", apart := false }
def OrderWrapsSaid : Prop := orderWrapsRow.holds Try.pinned (OpenSpec.ofChange orderWrapsSpec)

/-- ITS FALSE NEIGHBOUR: 'it returns false'. Refute it at one input. -/
def orderWrapsWrong : ChangeSpec := { name := "orderWraps", fn := fun _ => fun
  | [d1, d2, d3] => { results := [.lit (.bool false)], args := [d1, d2, d3] }
  | _ => none }
def OrderWrapsWrongFalsely : Prop := orderWrapsRow.holds Try.pinned (OpenSpec.ofChange orderWrapsWrong)

/-- 'rampartlaw07.OrderNumbers': WHATEVER THE INPUT: true; the input reads as it did. -/
def orderNumbersSpec : ChangeSpec := { name := "orderNumbers", fn := fun _ => fun
  | [d1, d2, d3] => { results := [.lit (.bool true)], args := [d1, d2, d3] }
  | _ => none }
def orderNumbersRow : OpenClaim := { program := "ytgklphcnkplkoaa", sum := "2e8701e105a7a40320fe51ac70be4bcc26e0c136db3def533d10c0806980d604", func := "rampart/rampartlaw07.OrderNumbers", spec := "orderNumbers", apart := false }
def OrderNumbersSaid : Prop := orderNumbersRow.holds Try.pinned (OpenSpec.ofChange orderNumbersSpec)

/-- ITS FALSE NEIGHBOUR: 'it returns false'. Refute it at one input. -/
def orderNumbersWrong : ChangeSpec := { name := "orderNumbers", fn := fun _ => fun
  | [d1, d2, d3] => { results := [.lit (.bool false)], args := [d1, d2, d3] }
  | _ => none }
def OrderNumbersWrongFalsely : Prop := orderNumbersRow.holds Try.pinned (OpenSpec.ofChange orderNumbersWrong)

/-- 'rampartlaw07.OrderRings': WHATEVER THE INPUT: true; the input reads as it did. -/
def orderRingsSpec : ChangeSpec := { name := "orderRings", fn := fun _ => fun
  | [d1, d2, d3] => { results := [.lit (.bool true)], args := [d1, d2, d3] }
  | _ => none }
def orderRingsRow : OpenClaim := { program := "ytgklphcnkplkoaa", sum := "2e8701e105a7a40320fe51ac70be4bcc26e0c136db3def533d10c0806980d604", func := "rampart/rampartlaw07.OrderRings", spec := "orderRings", apart := false }
def OrderRingsSaid : Prop := orderRingsRow.holds Try.pinned (OpenSpec.ofChange orderRingsSpec)

/-- ITS FALSE NEIGHBOUR: 'it returns false'. Refute it at one input. -/
def orderRingsWrong : ChangeSpec := { name := "orderRings", fn := fun _ => fun
  | [d1, d2, d3] => { results := [.lit (.bool false)], args := [d1, d2, d3] }
  | _ => none }
def OrderRingsWrongFalsely : Prop := orderRingsRow.holds Try.pinned (OpenSpec.ofChange orderRingsWrong)

/-- 'rampartlaw07.OrderPlaces': WHATEVER THE INPUT: true; the input reads as it did. -/
def orderPlacesSpec : ChangeSpec := { name := "orderPlaces", fn := fun _ => fun
  | [d1, d2] => { results := [.lit (.bool true)], args := [d1, d2] }
  | _ => none }
def orderPlacesRow : OpenClaim := { program := "ytgklphcnkplkoaa", sum := "2e8701e105a7a40320fe51ac70be4bcc26e0c136db3def533d10c0806980d604", func := "rampart/rampartlaw07.OrderPlaces", spec := "orderPlaces", apart := false }
def OrderPlacesSaid : Prop := orderPlacesRow.holds Try.pinned (OpenSpec.ofChange orderPlacesSpec)

/-- ITS FALSE NEIGHBOUR: 'it returns false'. Refute it at one input. -/
def orderPlacesWrong : ChangeSpec := { name := "orderPlaces", fn := fun _ => fun
  | [d1, d2] => { results := [.lit (.bool false)], args := [d1, d2] }
  | _ => none }
def OrderPlacesWrongFalsely : Prop := orderPlacesRow.holds Try.pinned (OpenSpec.ofChange orderPlacesWrong)

/-- 'rampartlaw07.OrderBack': WHATEVER THE INPUT: true; the input reads as it did. -/
def orderBackSpec : ChangeSpec := { name := "orderBack", fn := fun _ => fun
  | [d1, d2, d3] => { results := [.lit (.bool true)], args := [d1, d2, d3] }
  | _ => none }
def orderBackRow : OpenClaim := { program := "ytgklphcnkplkoaa", sum := "2e8701e105a7a40320fe51ac70be4bcc26e0c136db3def533d10c0806980d604", func := "rampart/rampartlaw07.OrderBack", spec := "orderBack", apart := false }
def OrderBackSaid : Prop := orderBackRow.holds Try.pinned (OpenSpec.ofChange orderBackSpec)

/-- ITS FALSE NEIGHBOUR: 'it returns false'. Refute it at one input. -/
def orderBackWrong : ChangeSpec := { name := "orderBack", fn := fun _ => fun
  | [d1, d2, d3] => { results := [.lit (.bool false)], args := [d1, d2, d3] }
  | _ => none }
def OrderBackWrongFalsely : Prop := orderBackRow.holds Try.pinned (OpenSpec.ofChange orderBackWrong)

/-- 'rampartlaw07.OrderStamps': WHATEVER THE INPUT: true; the input reads as it did. -/
def orderStampsSpec : ChangeSpec := { name := "orderStamps", fn := fun _ => fun
  | [d1, d2, d3] => { results := [.lit (.bool true)], args := [d1, d2, d3] }
  | _ => none }
def orderStampsRow : OpenClaim := { program := "ytgklphcnkplkoaa", sum := "2e8701e105a7a40320fe51ac70be4bcc26e0c136db3def533d10c0806980d604", func := "rampart/rampartlaw07.OrderStamps", spec := "orderStamps", unfollowed := true, recurses := true, apart := false }
def OrderStampsSaid : Prop := orderStampsRow.holds Try.pinned (OpenSpec.ofChange orderStampsSpec)

/-- ITS FALSE NEIGHBOUR: 'it returns false'. Refute it at one input. -/
def orderStampsWrong : ChangeSpec := { name := "orderStamps", fn := fun _ => fun
  | [d1, d2, d3] => { results := [.lit (.bool false)], args := [d1, d2, d3] }
  | _ => none }
def OrderStampsWrongFalsely : Prop := orderStampsRow.holds Try.pinned (OpenSpec.ofChange orderStampsWrong)

/- THE SECOND FORM. 'bulk': how many values and letters a reading holds, each counted each time it is reached (what is shared counts as often as it is met; a slice's spare places count too). A statement '..UptoSaid' is the law's where the arguments, and the package variables that the reading takes, are together of bulk at most 1048576: NARROWER than '..Said'. Prove '..Said' where nothing that the law and all that it calls make is longer than what came in: it says more and counts as full. Else prove '..UptoSaid'. A law counts once. -/
mutual
def uptoBulk {H : Type} : DataW H → Nat
  | .lit (.string bytes) => bytes.length + 1
  | .lit _ => 1
  | .nil => 1
  | .ptr d => uptoBulk d + 1
  | .slice elems spare => uptoBulkAll elems + uptoBulkAll spare + 1
  | .agg parts => uptoBulkAll parts + 1
  | .iface _ d => uptoBulk d + 1
  | .map entries => uptoBulkEntries entries + 1
  | .held _ => 1
def uptoBulkAll {H : Type} : List (DataW H) → Nat
  | [] => 0
  | d :: r => uptoBulk d + uptoBulkAll r
def uptoBulkEntries {H : Type} : List (Lit × DataW H) → Nat
  | [] => 0
  | x :: r => uptoBulkEntry x + uptoBulkEntries r
def uptoBulkEntry {H : Type} : Lit × DataW H → Nat
  | (.string bytes, d) => bytes.length + uptoBulk d + 1
  | (_, d) => uptoBulk d + 1
 end
def uptoSmall : (H : Type) → List (DataW H) → Bool := fun _ ds => decide (uptoBulkAll ds ≤ 1048576)
def OpenSpec.upto (s : _root_.Go.ChangeSpec) : _root_.Go.OpenSpec := { _root_.Go.OpenSpec.ofChange s with cond := some uptoSmall }

/-- 'rampartlaw07.OrderTotal', WHERE WHAT IT READS IS OF BULK AT MOST 1048576: true; the input reads as it did. -/
def orderTotalUptoRow : OpenClaim := { program := "ytgklphcnkplkoaa", sum := "2e8701e105a7a40320fe51ac70be4bcc26e0c136db3def533d10c0806980d604", func := "rampart/rampartlaw07.OrderTotal", spec := "orderTotal", apart := false, narrowed := true }
def OrderTotalUptoSaid : Prop := orderTotalUptoRow.holds Try.pinned (OpenSpec.upto orderTotalSpec)

/-- 'rampartlaw07.OrderWraps', WHERE WHAT IT READS IS OF BULK AT MOST 1048576: true; the input reads as it did. -/
def orderWrapsUptoRow : OpenClaim := { program := "ytgklphcnkplkoaa", sum := "2e8701e105a7a40320fe51ac70be4bcc26e0c136db3def533d10c0806980d604", func := "rampart/rampartlaw07.OrderWraps", spec := "orderWraps", apart := false, narrowed := true }
def OrderWrapsUptoSaid : Prop := orderWrapsUptoRow.holds Try.pinned (OpenSpec.upto orderWrapsSpec)

/-- 'rampartlaw07.OrderNumbers', WHERE WHAT IT READS IS OF BULK AT MOST 1048576: true; the input reads as it did. -/
def orderNumbersUptoRow : OpenClaim := { program := "ytgklphcnkplkoaa", sum := "2e8701e105a7a40320fe51ac70be4bcc26e0c136db3def533d10c0806980d604", func := "rampart/rampartlaw07.OrderNumbers", spec := "orderNumbers", apart := false, narrowed := true }
def OrderNumbersUptoSaid : Prop := orderNumbersUptoRow.holds Try.pinned (OpenSpec.upto orderNumbersSpec)

/-- 'rampartlaw07.OrderRings', WHERE WHAT IT READS IS OF BULK AT MOST 1048576: true; the input reads as it did. -/
def orderRingsUptoRow : OpenClaim := { program := "ytgklphcnkplkoaa", sum := "2e8701e105a7a40320fe51ac70be4bcc26e0c136db3def533d10c0806980d604", func := "rampart/rampartlaw07.OrderRings", spec := "orderRings", apart := false, narrowed := true }
def OrderRingsUptoSaid : Prop := orderRingsUptoRow.holds Try.pinned (OpenSpec.upto orderRingsSpec)

/-- 'rampartlaw07.OrderPlaces', WHERE WHAT IT READS IS OF BULK AT MOST 1048576: true; the input reads as it did. -/
def orderPlacesUptoRow : OpenClaim := { program := "ytgklphcnkplkoaa", sum := "2e8701e105a7a40320fe51ac70be4bcc26e0c136db3def533d10c0806980d604", func := "rampart/rampartlaw07.OrderPlaces", spec := "orderPlaces", apart := false, narrowed := true }
def OrderPlacesUptoSaid : Prop := orderPlacesUptoRow.holds Try.pinned (OpenSpec.upto orderPlacesSpec)

/-- 'rampartlaw07.OrderBack', WHERE WHAT IT READS IS OF BULK AT MOST 1048576: true; the input reads as it did. -/
def orderBackUptoRow : OpenClaim := { program := "ytgklphcnkplkoaa", sum := "2e8701e105a7a40320fe51ac70be4bcc26e0c136db3def533d10c0806980d604", func := "rampart/rampartlaw07.OrderBack", spec := "orderBack", apart := false, narrowed := true }
def OrderBackUptoSaid : Prop := orderBackUptoRow.holds Try.pinned (OpenSpec.upto orderBackSpec)

/-- 'rampartlaw07.OrderStamps', WHERE WHAT IT READS IS OF BULK AT MOST 1048576: true; the input reads as it did. -/
def orderStampsUptoRow : OpenClaim := { program := "ytgklphcnkplkoaa", sum := "2e8701e105a7a40320fe51ac70be4bcc26e0c136db3def533d10c0806980d604", func := "rampart/rampartlaw07.OrderStamps", spec := "orderStamps", unfollowed := true, recurses := true, apart := false, narrowed := true }
def OrderStampsUptoSaid : Prop := orderStampsUptoRow.holds Try.pinned (OpenSpec.upto orderStampsSpec)

end Rows
end Go.Proofs.Ytgklphcnkplkoaa
