/-
  NARROWER THAN 'FOR EVERY INPUT', by the rows' own cells (each row's printed sentence says how): DecodeTicks: laid · DecodeOwn: laid · DecodeFlows: laid · DecodeNames: laid · DecodeDown: laid · DecodeGrants: laid · DecodeScripts: laid.
  DERIVED. THE GIVEN ROWS OF THIS SEAT. 7 by the template 'for every input the law returns true; each argument reads behind the call as it read before'; 0 by the template 'total and deterministic' (their statements: YtoliipbmcekciaaDoorTotals.lean).
  GIVEN WITH THE SEED: the statements are not yours to turn. If you find one false, say at which input.
  Laid BY PROGRAM, IN A SANDBOX (cutbox-rows.mjs): the forced cells as the released guide's own fill.sh prints them over the translation 79699493d67e5ef3… (all of the seat's roots in one cut). By AI agents, Wed Nov 11 2026. No macro, syntax, notation, axiom, sorry.
-/
import Derived.Test.YtoliipbmcekciaaDoorChecked
import GoSem.Claim
import GoSem.ClaimJoined
import GoSem.ClaimMapViews
import Derived.JoinedTies
import Derived.KernelRfl
namespace Go.Proofs.YtoliipbmcekciaaDoor
/- THE CELL 'sum', in the pinned program and in every row, IS THE sha256 OF THE DUMP (.gsa) THAT YtoliipbmcekciaaDoorProg.lean LOADS. Nothing in Lean hashes anything: it is a label: what it is worth is what the hold of that sum in a sandbox is worth. -/
noncomputable def Tryd.pinned : Pinned := { name := "ytoliipbmcekciaadoor", sum := "79699493d67e5ef3d2b337252ac0dd41ab041ee82bb2a76d63b6b531f0459db9", checked := Tryd.checked }
namespace Rows
def none {H : Type} : Left H := { results := [], args := [] }

/- WHAT THE LISTED PACKAGE-LEVEL VARIABLES READ AS WHEN THE CALL BEGINS. Each datum BY PROGRAM (the guide's laid-datum.mjs) off the statement by which the dump's own 'gosem.cut.vars' lays the variable. In a bare row this is a premise. The card (YtoliipbmcekciaaDoorCards.lean) ties it to the program's text. -/
def laid_rampart_wire_handlePart {H : Type} : DataW H := .agg [.lit (.int .i64 4), .lit (.int .i64 4)]
def laid_rampart_wire_payloadPart {H : Type} : DataW H := .agg [.lit (.int .i64 8), .lit (.int .i64 8)]

/-- 'rampartlaw21.DecodeTicks': WHATEVER THE INPUT: true; the input reads as it did. -/
def decodeTicksSpec : ChangeSpec := { name := "decodeTicks", fn := fun _ => fun
  | [d1, d2, d3] => { results := [.lit (.bool true)], args := [d1, d2, d3] }
  | _ => none }
def decodeTicksRow : OpenClaim := { program := "ytoliipbmcekciaadoor", sum := "79699493d67e5ef3d2b337252ac0dd41ab041ee82bb2a76d63b6b531f0459db9", func := "rampart/rampartlaw21.DecodeTicks", spec := "decodeTicks", unfollowed := true, recurses := true, named := ["rampart/wire.handlePart", "rampart/wire.payloadPart"], apart := false, laid := [("rampart/wire.handlePart", laid_rampart_wire_handlePart), ("rampart/wire.payloadPart", laid_rampart_wire_payloadPart)] }
def DecodeTicksSaid : Prop := decodeTicksRow.holds Tryd.pinned (OpenSpec.ofChange decodeTicksSpec)

/-- ITS FALSE NEIGHBOUR: 'it returns false'. Refute it at one input. -/
def decodeTicksWrong : ChangeSpec := { name := "decodeTicks", fn := fun _ => fun
  | [d1, d2, d3] => { results := [.lit (.bool false)], args := [d1, d2, d3] }
  | _ => none }
def DecodeTicksWrongFalsely : Prop := decodeTicksRow.holds Tryd.pinned (OpenSpec.ofChange decodeTicksWrong)

/-- 'rampartlaw21.DecodeOwn': WHATEVER THE INPUT: true; the input reads as it did. -/
def decodeOwnSpec : ChangeSpec := { name := "decodeOwn", fn := fun _ => fun
  | [d1, d2, d3, d4] => { results := [.lit (.bool true)], args := [d1, d2, d3, d4] }
  | _ => none }
def decodeOwnRow : OpenClaim := { program := "ytoliipbmcekciaadoor", sum := "79699493d67e5ef3d2b337252ac0dd41ab041ee82bb2a76d63b6b531f0459db9", func := "rampart/rampartlaw21.DecodeOwn", spec := "decodeOwn", unfollowed := true, recurses := true, named := ["rampart/wire.handlePart", "rampart/wire.payloadPart"], apart := false, laid := [("rampart/wire.handlePart", laid_rampart_wire_handlePart), ("rampart/wire.payloadPart", laid_rampart_wire_payloadPart)] }
def DecodeOwnSaid : Prop := decodeOwnRow.holds Tryd.pinned (OpenSpec.ofChange decodeOwnSpec)

/-- ITS FALSE NEIGHBOUR: 'it returns false'. Refute it at one input. -/
def decodeOwnWrong : ChangeSpec := { name := "decodeOwn", fn := fun _ => fun
  | [d1, d2, d3, d4] => { results := [.lit (.bool false)], args := [d1, d2, d3, d4] }
  | _ => none }
def DecodeOwnWrongFalsely : Prop := decodeOwnRow.holds Tryd.pinned (OpenSpec.ofChange decodeOwnWrong)

/-- 'rampartlaw21.DecodeFlows': WHATEVER THE INPUT: true; the input reads as it did. -/
def decodeFlowsSpec : ChangeSpec := { name := "decodeFlows", fn := fun _ => fun
  | [d1, d2, d3, d4] => { results := [.lit (.bool true)], args := [d1, d2, d3, d4] }
  | _ => none }
def decodeFlowsRow : OpenClaim := { program := "ytoliipbmcekciaadoor", sum := "79699493d67e5ef3d2b337252ac0dd41ab041ee82bb2a76d63b6b531f0459db9", func := "rampart/rampartlaw21.DecodeFlows", spec := "decodeFlows", unfollowed := true, recurses := true, named := ["rampart/wire.handlePart", "rampart/wire.payloadPart"], apart := false, laid := [("rampart/wire.handlePart", laid_rampart_wire_handlePart), ("rampart/wire.payloadPart", laid_rampart_wire_payloadPart)] }
def DecodeFlowsSaid : Prop := decodeFlowsRow.holds Tryd.pinned (OpenSpec.ofChange decodeFlowsSpec)

/-- ITS FALSE NEIGHBOUR: 'it returns false'. Refute it at one input. -/
def decodeFlowsWrong : ChangeSpec := { name := "decodeFlows", fn := fun _ => fun
  | [d1, d2, d3, d4] => { results := [.lit (.bool false)], args := [d1, d2, d3, d4] }
  | _ => none }
def DecodeFlowsWrongFalsely : Prop := decodeFlowsRow.holds Tryd.pinned (OpenSpec.ofChange decodeFlowsWrong)

/-- 'rampartlaw21.DecodeNames': WHATEVER THE INPUT: true; the input reads as it did. -/
def decodeNamesSpec : ChangeSpec := { name := "decodeNames", fn := fun _ => fun
  | [d1, d2, d3, d4, d5] => { results := [.lit (.bool true)], args := [d1, d2, d3, d4, d5] }
  | _ => none }
def decodeNamesRow : OpenClaim := { program := "ytoliipbmcekciaadoor", sum := "79699493d67e5ef3d2b337252ac0dd41ab041ee82bb2a76d63b6b531f0459db9", func := "rampart/rampartlaw21.DecodeNames", spec := "decodeNames", unfollowed := true, recurses := true, named := ["rampart/wire.handlePart", "rampart/wire.payloadPart"], apart := false, laid := [("rampart/wire.handlePart", laid_rampart_wire_handlePart), ("rampart/wire.payloadPart", laid_rampart_wire_payloadPart)] }
def DecodeNamesSaid : Prop := decodeNamesRow.holds Tryd.pinned (OpenSpec.ofChange decodeNamesSpec)

/-- ITS FALSE NEIGHBOUR: 'it returns false'. Refute it at one input. -/
def decodeNamesWrong : ChangeSpec := { name := "decodeNames", fn := fun _ => fun
  | [d1, d2, d3, d4, d5] => { results := [.lit (.bool false)], args := [d1, d2, d3, d4, d5] }
  | _ => none }
def DecodeNamesWrongFalsely : Prop := decodeNamesRow.holds Tryd.pinned (OpenSpec.ofChange decodeNamesWrong)

/-- 'rampartlaw21.DecodeDown': WHATEVER THE INPUT: true; the input reads as it did. -/
def decodeDownSpec : ChangeSpec := { name := "decodeDown", fn := fun _ => fun
  | [d1, d2, d3, d4, d5, d6, d7] => { results := [.lit (.bool true)], args := [d1, d2, d3, d4, d5, d6, d7] }
  | _ => none }
def decodeDownRow : OpenClaim := { program := "ytoliipbmcekciaadoor", sum := "79699493d67e5ef3d2b337252ac0dd41ab041ee82bb2a76d63b6b531f0459db9", func := "rampart/rampartlaw21.DecodeDown", spec := "decodeDown", unfollowed := true, recurses := true, named := ["rampart/wire.handlePart", "rampart/wire.payloadPart"], apart := false, laid := [("rampart/wire.handlePart", laid_rampart_wire_handlePart), ("rampart/wire.payloadPart", laid_rampart_wire_payloadPart)] }
def DecodeDownSaid : Prop := decodeDownRow.holds Tryd.pinned (OpenSpec.ofChange decodeDownSpec)

/-- ITS FALSE NEIGHBOUR: 'it returns false'. Refute it at one input. -/
def decodeDownWrong : ChangeSpec := { name := "decodeDown", fn := fun _ => fun
  | [d1, d2, d3, d4, d5, d6, d7] => { results := [.lit (.bool false)], args := [d1, d2, d3, d4, d5, d6, d7] }
  | _ => none }
def DecodeDownWrongFalsely : Prop := decodeDownRow.holds Tryd.pinned (OpenSpec.ofChange decodeDownWrong)

/-- 'rampartlaw21.DecodeGrants': WHATEVER THE INPUT: true; the input reads as it did. -/
def decodeGrantsSpec : ChangeSpec := { name := "decodeGrants", fn := fun _ => fun
  | [d1, d2, d3, d4, d5, d6, d7] => { results := [.lit (.bool true)], args := [d1, d2, d3, d4, d5, d6, d7] }
  | _ => none }
def decodeGrantsRow : OpenClaim := { program := "ytoliipbmcekciaadoor", sum := "79699493d67e5ef3d2b337252ac0dd41ab041ee82bb2a76d63b6b531f0459db9", func := "rampart/rampartlaw21.DecodeGrants", spec := "decodeGrants", unfollowed := true, recurses := true, named := ["rampart/wire.handlePart", "rampart/wire.payloadPart"], apart := false, laid := [("rampart/wire.handlePart", laid_rampart_wire_handlePart), ("rampart/wire.payloadPart", laid_rampart_wire_payloadPart)] }
def DecodeGrantsSaid : Prop := decodeGrantsRow.holds Tryd.pinned (OpenSpec.ofChange decodeGrantsSpec)

/-- ITS FALSE NEIGHBOUR: 'it returns false'. Refute it at one input. -/
def decodeGrantsWrong : ChangeSpec := { name := "decodeGrants", fn := fun _ => fun
  | [d1, d2, d3, d4, d5, d6, d7] => { results := [.lit (.bool false)], args := [d1, d2, d3, d4, d5, d6, d7] }
  | _ => none }
def DecodeGrantsWrongFalsely : Prop := decodeGrantsRow.holds Tryd.pinned (OpenSpec.ofChange decodeGrantsWrong)

/-- 'rampartlaw21.DecodeScripts': WHATEVER THE INPUT: true; the input reads as it did. -/
def decodeScriptsSpec : ChangeSpec := { name := "decodeScripts", fn := fun _ => fun
  | [d1, d2] => { results := [.lit (.bool true)], args := [d1, d2] }
  | _ => none }
def decodeScriptsRow : OpenClaim := { program := "ytoliipbmcekciaadoor", sum := "79699493d67e5ef3d2b337252ac0dd41ab041ee82bb2a76d63b6b531f0459db9", func := "rampart/rampartlaw21.DecodeScripts", spec := "decodeScripts", unfollowed := true, recurses := true, named := ["rampart/wire.handlePart", "rampart/wire.payloadPart"], apart := false, laid := [("rampart/wire.handlePart", laid_rampart_wire_handlePart), ("rampart/wire.payloadPart", laid_rampart_wire_payloadPart)] }
def DecodeScriptsSaid : Prop := decodeScriptsRow.holds Tryd.pinned (OpenSpec.ofChange decodeScriptsSpec)

/-- ITS FALSE NEIGHBOUR: 'it returns false'. Refute it at one input. -/
def decodeScriptsWrong : ChangeSpec := { name := "decodeScripts", fn := fun _ => fun
  | [d1, d2] => { results := [.lit (.bool false)], args := [d1, d2] }
  | _ => none }
def DecodeScriptsWrongFalsely : Prop := decodeScriptsRow.holds Tryd.pinned (OpenSpec.ofChange decodeScriptsWrong)

/- THE SECOND FORM. 'bulk': how many values and letters a reading holds, each counted each time it is reached (what is shared counts as often as it is met; a slice's spare places count too). A statement '..UptoSaid' is the law's where the arguments, and the package variables that the reading takes, are together of bulk at most 1048576: NARROWER than '..Said'. Prove '..Said' where nothing that the law and all that it calls make is longer than what came in: it says more and counts as full. Else prove '..UptoSaid'. A law counts once. -/
mutual
def uptoBulk {H : Type} : DataW H → Nat
  | .lit (.string bytes) => bytes.length + 1
  | .lit _ => 1
  | .nil => 1
  | .ptr d => uptoBulk d + 1
  | .slice elems spare => uptoBulkAll elems + uptoBulkAll spare + 1
  | .agg parts => uptoBulkAll parts + 1
  | .iface _ d => uptoBulk d + 1
  | .map entries => uptoBulkEntries entries + 1
  | .held _ => 1
def uptoBulkAll {H : Type} : List (DataW H) → Nat
  | [] => 0
  | d :: r => uptoBulk d + uptoBulkAll r
def uptoBulkEntries {H : Type} : List (Lit × DataW H) → Nat
  | [] => 0
  | x :: r => uptoBulkEntry x + uptoBulkEntries r
def uptoBulkEntry {H : Type} : Lit × DataW H → Nat
  | (.string bytes, d) => bytes.length + uptoBulk d + 1
  | (_, d) => uptoBulk d + 1
 end
def uptoSmall : (H : Type) → List (DataW H) → Bool := fun _ ds => decide (uptoBulkAll ds ≤ 1048576)
def OpenSpec.upto (s : _root_.Go.ChangeSpec) : _root_.Go.OpenSpec := { _root_.Go.OpenSpec.ofChange s with cond := some uptoSmall }

/-- 'rampartlaw21.DecodeTicks', WHERE WHAT IT READS IS OF BULK AT MOST 1048576: true; the input reads as it did. -/
def decodeTicksUptoRow : OpenClaim := { program := "ytoliipbmcekciaadoor", sum := "79699493d67e5ef3d2b337252ac0dd41ab041ee82bb2a76d63b6b531f0459db9", func := "rampart/rampartlaw21.DecodeTicks", spec := "decodeTicks", unfollowed := true, recurses := true, named := ["rampart/wire.handlePart", "rampart/wire.payloadPart"], apart := false, laid := [("rampart/wire.handlePart", laid_rampart_wire_handlePart), ("rampart/wire.payloadPart", laid_rampart_wire_payloadPart)], narrowed := true }
def DecodeTicksUptoSaid : Prop := decodeTicksUptoRow.holds Tryd.pinned (OpenSpec.upto decodeTicksSpec)

/-- 'rampartlaw21.DecodeOwn', WHERE WHAT IT READS IS OF BULK AT MOST 1048576: true; the input reads as it did. -/
def decodeOwnUptoRow : OpenClaim := { program := "ytoliipbmcekciaadoor", sum := "79699493d67e5ef3d2b337252ac0dd41ab041ee82bb2a76d63b6b531f0459db9", func := "rampart/rampartlaw21.DecodeOwn", spec := "decodeOwn", unfollowed := true, recurses := true, named := ["rampart/wire.handlePart", "rampart/wire.payloadPart"], apart := false, laid := [("rampart/wire.handlePart", laid_rampart_wire_handlePart), ("rampart/wire.payloadPart", laid_rampart_wire_payloadPart)], narrowed := true }
def DecodeOwnUptoSaid : Prop := decodeOwnUptoRow.holds Tryd.pinned (OpenSpec.upto decodeOwnSpec)

/-- 'rampartlaw21.DecodeFlows', WHERE WHAT IT READS IS OF BULK AT MOST 1048576: true; the input reads as it did. -/
def decodeFlowsUptoRow : OpenClaim := { program := "ytoliipbmcekciaadoor", sum := "79699493d67e5ef3d2b337252ac0dd41ab041ee82bb2a76d63b6b531f0459db9", func := "rampart/rampartlaw21.DecodeFlows", spec := "decodeFlows", unfollowed := true, recurses := true, named := ["rampart/wire.handlePart", "rampart/wire.payloadPart"], apart := false, laid := [("rampart/wire.handlePart", laid_rampart_wire_handlePart), ("rampart/wire.payloadPart", laid_rampart_wire_payloadPart)], narrowed := true }
def DecodeFlowsUptoSaid : Prop := decodeFlowsUptoRow.holds Tryd.pinned (OpenSpec.upto decodeFlowsSpec)

/-- 'rampartlaw21.DecodeNames', WHERE WHAT IT READS IS OF BULK AT MOST 1048576: true; the input reads as it did. -/
def decodeNamesUptoRow : OpenClaim := { program := "ytoliipbmcekciaadoor", sum := "79699493d67e5ef3d2b337252ac0dd41ab041ee82bb2a76d63b6b531f0459db9", func := "rampart/rampartlaw21.DecodeNames", spec := "decodeNames", unfollowed := true, recurses := true, named := ["rampart/wire.handlePart", "rampart/wire.payloadPart"], apart := false, laid := [("rampart/wire.handlePart", laid_rampart_wire_handlePart), ("rampart/wire.payloadPart", laid_rampart_wire_payloadPart)], narrowed := true }
def DecodeNamesUptoSaid : Prop := decodeNamesUptoRow.holds Tryd.pinned (OpenSpec.upto decodeNamesSpec)

/-- 'rampartlaw21.DecodeDown', WHERE WHAT IT READS IS OF BULK AT MOST 1048576: true; the input reads as it did. -/
def decodeDownUptoRow : OpenClaim := { program := "ytoliipbmcekciaadoor", sum := "79699493d67e5ef3d2b337252ac0dd41ab041ee82bb2a76d63b6b531f0459db9", func := "rampart/rampartlaw21.DecodeDown", spec := "decodeDown", unfollowed := true, recurses := true, named := ["rampart/wire.handlePart", "rampart/wire.payloadPart"], apart := false, laid := [("rampart/wire.handlePart", laid_rampart_wire_handlePart), ("rampart/wire.payloadPart", laid_rampart_wire_payloadPart)], narrowed := true }
def DecodeDownUptoSaid : Prop := decodeDownUptoRow.holds Tryd.pinned (OpenSpec.upto decodeDownSpec)

/-- 'rampartlaw21.DecodeGrants', WHERE WHAT IT READS IS OF BULK AT MOST 1048576: true; the input reads as it did. -/
def decodeGrantsUptoRow : OpenClaim := { program := "ytoliipbmcekciaadoor", sum := "79699493d67e5ef3d2b337252ac0dd41ab041ee82bb2a76d63b6b531f0459db9", func := "rampart/rampartlaw21.DecodeGrants", spec := "decodeGrants", unfollowed := true, recurses := true, named := ["rampart/wire.handlePart", "rampart/wire.payloadPart"], apart := false, laid := [("rampart/wire.handlePart", laid_rampart_wire_handlePart), ("rampart/wire.payloadPart", laid_rampart_wire_payloadPart)], narrowed := true }
def DecodeGrantsUptoSaid : Prop := decodeGrantsUptoRow.holds Tryd.pinned (OpenSpec.upto decodeGrantsSpec)

/-- 'rampartlaw21.DecodeScripts', WHERE WHAT IT READS IS OF BULK AT MOST 1048576: true; the input reads as it did. -/
def decodeScriptsUptoRow : OpenClaim := { program := "ytoliipbmcekciaadoor", sum := "79699493d67e5ef3d2b337252ac0dd41ab041ee82bb2a76d63b6b531f0459db9", func := "rampart/rampartlaw21.DecodeScripts", spec := "decodeScripts", unfollowed := true, recurses := true, named := ["rampart/wire.handlePart", "rampart/wire.payloadPart"], apart := false, laid := [("rampart/wire.handlePart", laid_rampart_wire_handlePart), ("rampart/wire.payloadPart", laid_rampart_wire_payloadPart)], narrowed := true }
def DecodeScriptsUptoSaid : Prop := decodeScriptsUptoRow.holds Tryd.pinned (OpenSpec.upto decodeScriptsSpec)

end Rows
end Go.Proofs.YtoliipbmcekciaaDoor
