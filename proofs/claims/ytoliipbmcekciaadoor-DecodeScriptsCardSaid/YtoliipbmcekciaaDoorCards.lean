/-
  DERIVED. GIVEN WITH THE SEED: THE CARDS: each row of YtoliipbmcekciaaDoorRows.lean that lists a variable, with what it lists TIED to the program's text (the seventh form; the later family's looks); each row that meets fmt, with fmt's text TOLD by the authors' own Lean function (tested against real Go, not proved from fmt's source: count such statements apart). THE CARD IS WHAT COUNTS. Prove the row's statement (the work); the ties are given (YtoliipbmcekciaaDoorTie.lean); close each card by the builder's one call (the guide's Derived/Test/ToyasCard.lean, 'card_holds'). Laid BY PROGRAM, IN A SANDBOX (cutbox-door.mjs). By AI agents, Wed Nov 11 2026. No macro, syntax, notation, axiom, sorry.
-/
import Derived.Test.YtoliipbmcekciaaDoorRows
import GoSem.ClaimSeven
namespace Go.Proofs.YtoliipbmcekciaaDoor
namespace Rows

/-- THE TIED CARD OF 'rampartlaw21.DecodeTicks'. -/
def decodeTicksCard : Claim7 := { stood := { row := decodeTicksRow, standIns := [], harness := (true, "9354c7a1c31d7438fcaefba94ebc2cbd8f0fc50fca1618d0e350c51bbdeedbc7"), looks := false }, kinds := [], alts := [], laidByText := true, laidKinds := [.wider, .wider], laidTests := true, laidLooks := .later }
def DecodeTicksCardSaid : Prop := Claim7.holds Tryd.pinned (.plain (OpenSpec.ofChange decodeTicksSpec)) decodeTicksCard

/-- THE TIED CARD OF 'rampartlaw21.DecodeOwn'. -/
def decodeOwnCard : Claim7 := { stood := { row := decodeOwnRow, standIns := [], harness := (true, "9354c7a1c31d7438fcaefba94ebc2cbd8f0fc50fca1618d0e350c51bbdeedbc7"), looks := false }, kinds := [], alts := [], laidByText := true, laidKinds := [.wider, .wider], laidTests := true, laidLooks := .later }
def DecodeOwnCardSaid : Prop := Claim7.holds Tryd.pinned (.plain (OpenSpec.ofChange decodeOwnSpec)) decodeOwnCard

/-- THE TIED CARD OF 'rampartlaw21.DecodeFlows'. -/
def decodeFlowsCard : Claim7 := { stood := { row := decodeFlowsRow, standIns := [], harness := (true, "9354c7a1c31d7438fcaefba94ebc2cbd8f0fc50fca1618d0e350c51bbdeedbc7"), looks := false }, kinds := [], alts := [], laidByText := true, laidKinds := [.wider, .wider], laidTests := true, laidLooks := .later }
def DecodeFlowsCardSaid : Prop := Claim7.holds Tryd.pinned (.plain (OpenSpec.ofChange decodeFlowsSpec)) decodeFlowsCard

/-- THE TIED CARD OF 'rampartlaw21.DecodeNames'. -/
def decodeNamesCard : Claim7 := { stood := { row := decodeNamesRow, standIns := [], harness := (true, "9354c7a1c31d7438fcaefba94ebc2cbd8f0fc50fca1618d0e350c51bbdeedbc7"), looks := false }, kinds := [], alts := [], laidByText := true, laidKinds := [.wider, .wider], laidTests := true, laidLooks := .later }
def DecodeNamesCardSaid : Prop := Claim7.holds Tryd.pinned (.plain (OpenSpec.ofChange decodeNamesSpec)) decodeNamesCard

/-- THE TIED CARD OF 'rampartlaw21.DecodeDown'. -/
def decodeDownCard : Claim7 := { stood := { row := decodeDownRow, standIns := [], harness := (true, "9354c7a1c31d7438fcaefba94ebc2cbd8f0fc50fca1618d0e350c51bbdeedbc7"), looks := false }, kinds := [], alts := [], laidByText := true, laidKinds := [.wider, .wider], laidTests := true, laidLooks := .later }
def DecodeDownCardSaid : Prop := Claim7.holds Tryd.pinned (.plain (OpenSpec.ofChange decodeDownSpec)) decodeDownCard

/-- THE TIED CARD OF 'rampartlaw21.DecodeGrants'. -/
def decodeGrantsCard : Claim7 := { stood := { row := decodeGrantsRow, standIns := [], harness := (true, "9354c7a1c31d7438fcaefba94ebc2cbd8f0fc50fca1618d0e350c51bbdeedbc7"), looks := false }, kinds := [], alts := [], laidByText := true, laidKinds := [.wider, .wider], laidTests := true, laidLooks := .later }
def DecodeGrantsCardSaid : Prop := Claim7.holds Tryd.pinned (.plain (OpenSpec.ofChange decodeGrantsSpec)) decodeGrantsCard

/-- THE TIED CARD OF 'rampartlaw21.DecodeScripts'. -/
def decodeScriptsCard : Claim7 := { stood := { row := decodeScriptsRow, standIns := [], harness := (true, "9354c7a1c31d7438fcaefba94ebc2cbd8f0fc50fca1618d0e350c51bbdeedbc7"), looks := false }, kinds := [], alts := [], laidByText := true, laidKinds := [.wider, .wider], laidTests := true, laidLooks := .later }
def DecodeScriptsCardSaid : Prop := Claim7.holds Tryd.pinned (.plain (OpenSpec.ofChange decodeScriptsSpec)) decodeScriptsCard

/-- THE SECOND FORM's CARD OF 'rampartlaw21.DecodeTicks'. -/
def decodeTicksUptoCard : Claim7 := { stood := { row := decodeTicksUptoRow, standIns := [], harness := (true, "9354c7a1c31d7438fcaefba94ebc2cbd8f0fc50fca1618d0e350c51bbdeedbc7"), looks := false }, kinds := [], alts := [], laidByText := true, laidKinds := [.wider, .wider], laidTests := true, laidLooks := .later }
def DecodeTicksUptoCardSaid : Prop := Claim7.holds Tryd.pinned (.plain (OpenSpec.upto decodeTicksSpec)) decodeTicksUptoCard

/-- THE SECOND FORM's CARD OF 'rampartlaw21.DecodeOwn'. -/
def decodeOwnUptoCard : Claim7 := { stood := { row := decodeOwnUptoRow, standIns := [], harness := (true, "9354c7a1c31d7438fcaefba94ebc2cbd8f0fc50fca1618d0e350c51bbdeedbc7"), looks := false }, kinds := [], alts := [], laidByText := true, laidKinds := [.wider, .wider], laidTests := true, laidLooks := .later }
def DecodeOwnUptoCardSaid : Prop := Claim7.holds Tryd.pinned (.plain (OpenSpec.upto decodeOwnSpec)) decodeOwnUptoCard

/-- THE SECOND FORM's CARD OF 'rampartlaw21.DecodeFlows'. -/
def decodeFlowsUptoCard : Claim7 := { stood := { row := decodeFlowsUptoRow, standIns := [], harness := (true, "9354c7a1c31d7438fcaefba94ebc2cbd8f0fc50fca1618d0e350c51bbdeedbc7"), looks := false }, kinds := [], alts := [], laidByText := true, laidKinds := [.wider, .wider], laidTests := true, laidLooks := .later }
def DecodeFlowsUptoCardSaid : Prop := Claim7.holds Tryd.pinned (.plain (OpenSpec.upto decodeFlowsSpec)) decodeFlowsUptoCard

/-- THE SECOND FORM's CARD OF 'rampartlaw21.DecodeNames'. -/
def decodeNamesUptoCard : Claim7 := { stood := { row := decodeNamesUptoRow, standIns := [], harness := (true, "9354c7a1c31d7438fcaefba94ebc2cbd8f0fc50fca1618d0e350c51bbdeedbc7"), looks := false }, kinds := [], alts := [], laidByText := true, laidKinds := [.wider, .wider], laidTests := true, laidLooks := .later }
def DecodeNamesUptoCardSaid : Prop := Claim7.holds Tryd.pinned (.plain (OpenSpec.upto decodeNamesSpec)) decodeNamesUptoCard

/-- THE SECOND FORM's CARD OF 'rampartlaw21.DecodeDown'. -/
def decodeDownUptoCard : Claim7 := { stood := { row := decodeDownUptoRow, standIns := [], harness := (true, "9354c7a1c31d7438fcaefba94ebc2cbd8f0fc50fca1618d0e350c51bbdeedbc7"), looks := false }, kinds := [], alts := [], laidByText := true, laidKinds := [.wider, .wider], laidTests := true, laidLooks := .later }
def DecodeDownUptoCardSaid : Prop := Claim7.holds Tryd.pinned (.plain (OpenSpec.upto decodeDownSpec)) decodeDownUptoCard

/-- THE SECOND FORM's CARD OF 'rampartlaw21.DecodeGrants'. -/
def decodeGrantsUptoCard : Claim7 := { stood := { row := decodeGrantsUptoRow, standIns := [], harness := (true, "9354c7a1c31d7438fcaefba94ebc2cbd8f0fc50fca1618d0e350c51bbdeedbc7"), looks := false }, kinds := [], alts := [], laidByText := true, laidKinds := [.wider, .wider], laidTests := true, laidLooks := .later }
def DecodeGrantsUptoCardSaid : Prop := Claim7.holds Tryd.pinned (.plain (OpenSpec.upto decodeGrantsSpec)) decodeGrantsUptoCard

/-- THE SECOND FORM's CARD OF 'rampartlaw21.DecodeScripts'. -/
def decodeScriptsUptoCard : Claim7 := { stood := { row := decodeScriptsUptoRow, standIns := [], harness := (true, "9354c7a1c31d7438fcaefba94ebc2cbd8f0fc50fca1618d0e350c51bbdeedbc7"), looks := false }, kinds := [], alts := [], laidByText := true, laidKinds := [.wider, .wider], laidTests := true, laidLooks := .later }
def DecodeScriptsUptoCardSaid : Prop := Claim7.holds Tryd.pinned (.plain (OpenSpec.upto decodeScriptsSpec)) decodeScriptsUptoCard
end Rows
end Go.Proofs.YtoliipbmcekciaaDoor
