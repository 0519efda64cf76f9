/-
  No cell of these rows narrows 'for every input' (looked for: loops, veiled, ifaces, maps, wideKeys, modest, calm, conditions, laid).
  DERIVED. THE GIVEN ROWS OF THIS SEAT. 7 by the template 'for every input the law returns true; each argument reads behind the call as it read before'; 0 by the template 'total and deterministic' (their statements: YtmfmliblieemiaaTotals.lean).
  GIVEN WITH THE SEED: the statements are not yours to turn. If you find one false, say at which input.
  Laid BY PROGRAM, IN A SANDBOX (cutbox-rows.mjs): the forced cells as the released guide's own fill.sh prints them over the translation 26d66e91bcf22277… (all of the seat's roots in one cut). By AI agents, Wed Nov 11 2026. No macro, syntax, notation, axiom, sorry.
-/
import Derived.Test.YtmfmliblieemiaaChecked
import GoSem.Claim
import GoSem.ClaimJoined
import GoSem.ClaimMapViews
import Derived.JoinedTies
import Derived.KernelRfl
namespace Go.Proofs.Ytmfmliblieemiaa
/- THE CELL 'sum', in the pinned program and in every row, IS THE sha256 OF THE DUMP (.gsa) THAT YtmfmliblieemiaaProg.lean LOADS. Nothing in Lean hashes anything: it is a label: what it is worth is what the hold of that sum in a sandbox is worth. -/
noncomputable def Try.pinned : Pinned := { name := "ytmfmliblieemiaa", sum := "26d66e91bcf2227794a77eebd6593f466d6e4959c5cba0ca2561d0bcc1008524", checked := Try.checked }
namespace Rows
def none {H : Type} : Left H := { results := [], args := [] }

/-- 'rampartlaw19.FrameCounts': WHATEVER THE INPUT: true; the input reads as it did. -/
def frameCountsSpec : ChangeSpec := { name := "frameCounts", fn := fun _ => fun
  | [d1, d2, d3, d4, d5] => { results := [.lit (.bool true)], args := [d1, d2, d3, d4, d5] }
  | _ => none }
def frameCountsRow : OpenClaim := { program := "ytmfmliblieemiaa", sum := "26d66e91bcf2227794a77eebd6593f466d6e4959c5cba0ca2561d0bcc1008524", func := "rampart/rampartlaw19.FrameCounts", spec := "frameCounts", unfollowed := true, recurses := true, apart := false }
def FrameCountsSaid : Prop := frameCountsRow.holds Try.pinned (OpenSpec.ofChange frameCountsSpec)

/-- ITS FALSE NEIGHBOUR: 'it returns false'. Refute it at one input. -/
def frameCountsWrong : ChangeSpec := { name := "frameCounts", fn := fun _ => fun
  | [d1, d2, d3, d4, d5] => { results := [.lit (.bool false)], args := [d1, d2, d3, d4, d5] }
  | _ => none }
def FrameCountsWrongFalsely : Prop := frameCountsRow.holds Try.pinned (OpenSpec.ofChange frameCountsWrong)

/-- 'rampartlaw19.FrameParts': WHATEVER THE INPUT: true; the input reads as it did. -/
def framePartsSpec : ChangeSpec := { name := "frameParts", fn := fun _ => fun
  | [d1, d2, d3, d4] => { results := [.lit (.bool true)], args := [d1, d2, d3, d4] }
  | _ => none }
def framePartsRow : OpenClaim := { program := "ytmfmliblieemiaa", sum := "26d66e91bcf2227794a77eebd6593f466d6e4959c5cba0ca2561d0bcc1008524", func := "rampart/rampartlaw19.FrameParts", spec := "frameParts", unfollowed := true, recurses := true, apart := false }
def FramePartsSaid : Prop := framePartsRow.holds Try.pinned (OpenSpec.ofChange framePartsSpec)

/-- ITS FALSE NEIGHBOUR: 'it returns false'. Refute it at one input. -/
def framePartsWrong : ChangeSpec := { name := "frameParts", fn := fun _ => fun
  | [d1, d2, d3, d4] => { results := [.lit (.bool false)], args := [d1, d2, d3, d4] }
  | _ => none }
def FramePartsWrongFalsely : Prop := framePartsRow.holds Try.pinned (OpenSpec.ofChange framePartsWrong)

/-- 'rampartlaw19.FrameNear': WHATEVER THE INPUT: true; the input reads as it did. -/
def frameNearSpec : ChangeSpec := { name := "frameNear", fn := fun _ => fun
  | [d1, d2, d3, d4] => { results := [.lit (.bool true)], args := [d1, d2, d3, d4] }
  | _ => none }
def frameNearRow : OpenClaim := { program := "ytmfmliblieemiaa", sum := "26d66e91bcf2227794a77eebd6593f466d6e4959c5cba0ca2561d0bcc1008524", func := "rampart/rampartlaw19.FrameNear", spec := "frameNear", unfollowed := true, recurses := true, apart := false }
def FrameNearSaid : Prop := frameNearRow.holds Try.pinned (OpenSpec.ofChange frameNearSpec)

/-- ITS FALSE NEIGHBOUR: 'it returns false'. Refute it at one input. -/
def frameNearWrong : ChangeSpec := { name := "frameNear", fn := fun _ => fun
  | [d1, d2, d3, d4] => { results := [.lit (.bool false)], args := [d1, d2, d3, d4] }
  | _ => none }
def FrameNearWrongFalsely : Prop := frameNearRow.holds Try.pinned (OpenSpec.ofChange frameNearWrong)

/-- 'rampartlaw19.FrameOwners': WHATEVER THE INPUT: true; the input reads as it did. -/
def frameOwnersSpec : ChangeSpec := { name := "frameOwners", fn := fun _ => fun
  | [d1, d2, d3, d4] => { results := [.lit (.bool true)], args := [d1, d2, d3, d4] }
  | _ => none }
def frameOwnersRow : OpenClaim := { program := "ytmfmliblieemiaa", sum := "26d66e91bcf2227794a77eebd6593f466d6e4959c5cba0ca2561d0bcc1008524", func := "rampart/rampartlaw19.FrameOwners", spec := "frameOwners", unfollowed := true, recurses := true, apart := false }
def FrameOwnersSaid : Prop := frameOwnersRow.holds Try.pinned (OpenSpec.ofChange frameOwnersSpec)

/-- ITS FALSE NEIGHBOUR: 'it returns false'. Refute it at one input. -/
def frameOwnersWrong : ChangeSpec := { name := "frameOwners", fn := fun _ => fun
  | [d1, d2, d3, d4] => { results := [.lit (.bool false)], args := [d1, d2, d3, d4] }
  | _ => none }
def FrameOwnersWrongFalsely : Prop := frameOwnersRow.holds Try.pinned (OpenSpec.ofChange frameOwnersWrong)

/-- 'rampartlaw19.FrameRounds': WHATEVER THE INPUT: true; the input reads as it did. -/
def frameRoundsSpec : ChangeSpec := { name := "frameRounds", fn := fun _ => fun
  | [d1, d2, d3] => { results := [.lit (.bool true)], args := [d1, d2, d3] }
  | _ => none }
def frameRoundsRow : OpenClaim := { program := "ytmfmliblieemiaa", sum := "26d66e91bcf2227794a77eebd6593f466d6e4959c5cba0ca2561d0bcc1008524", func := "rampart/rampartlaw19.FrameRounds", spec := "frameRounds", unfollowed := true, recurses := true, apart := false }
def FrameRoundsSaid : Prop := frameRoundsRow.holds Try.pinned (OpenSpec.ofChange frameRoundsSpec)

/-- ITS FALSE NEIGHBOUR: 'it returns false'. Refute it at one input. -/
def frameRoundsWrong : ChangeSpec := { name := "frameRounds", fn := fun _ => fun
  | [d1, d2, d3] => { results := [.lit (.bool false)], args := [d1, d2, d3] }
  | _ => none }
def FrameRoundsWrongFalsely : Prop := frameRoundsRow.holds Try.pinned (OpenSpec.ofChange frameRoundsWrong)

/-- 'rampartlaw19.FrameTells': WHATEVER THE INPUT: true; the input reads as it did. -/
def frameTellsSpec : ChangeSpec := { name := "frameTells", fn := fun _ => fun
  | [d1, d2, d3, d4] => { results := [.lit (.bool true)], args := [d1, d2, d3, d4] }
  | _ => none }
def frameTellsRow : OpenClaim := { program := "ytmfmliblieemiaa", sum := "26d66e91bcf2227794a77eebd6593f466d6e4959c5cba0ca2561d0bcc1008524", func := "rampart/rampartlaw19.FrameTells", spec := "frameTells", unfollowed := true, recurses := true, apart := false }
def FrameTellsSaid : Prop := frameTellsRow.holds Try.pinned (OpenSpec.ofChange frameTellsSpec)

/-- ITS FALSE NEIGHBOUR: 'it returns false'. Refute it at one input. -/
def frameTellsWrong : ChangeSpec := { name := "frameTells", fn := fun _ => fun
  | [d1, d2, d3, d4] => { results := [.lit (.bool false)], args := [d1, d2, d3, d4] }
  | _ => none }
def FrameTellsWrongFalsely : Prop := frameTellsRow.holds Try.pinned (OpenSpec.ofChange frameTellsWrong)

/-- 'rampartlaw19.FrameGaps': WHATEVER THE INPUT: true; the input reads as it did. -/
def frameGapsSpec : ChangeSpec := { name := "frameGaps", fn := fun _ => fun
  | [d1, d2, d3, d4] => { results := [.lit (.bool true)], args := [d1, d2, d3, d4] }
  | _ => none }
def frameGapsRow : OpenClaim := { program := "ytmfmliblieemiaa", sum := "26d66e91bcf2227794a77eebd6593f466d6e4959c5cba0ca2561d0bcc1008524", func := "rampart/rampartlaw19.FrameGaps", spec := "frameGaps", unfollowed := true, recurses := true, apart := false }
def FrameGapsSaid : Prop := frameGapsRow.holds Try.pinned (OpenSpec.ofChange frameGapsSpec)

/-- ITS FALSE NEIGHBOUR: 'it returns false'. Refute it at one input. -/
def frameGapsWrong : ChangeSpec := { name := "frameGaps", fn := fun _ => fun
  | [d1, d2, d3, d4] => { results := [.lit (.bool false)], args := [d1, d2, d3, d4] }
  | _ => none }
def FrameGapsWrongFalsely : Prop := frameGapsRow.holds Try.pinned (OpenSpec.ofChange frameGapsWrong)

/- THE SECOND FORM. 'bulk': how many values and letters a reading holds, each counted each time it is reached (what is shared counts as often as it is met; a slice's spare places count too). A statement '..UptoSaid' is the law's where the arguments, and the package variables that the reading takes, are together of bulk at most 1048576: NARROWER than '..Said'. Prove '..Said' where nothing that the law and all that it calls make is longer than what came in: it says more and counts as full. Else prove '..UptoSaid'. A law counts once. -/
mutual
def uptoBulk {H : Type} : DataW H → Nat
  | .lit (.string bytes) => bytes.length + 1
  | .lit _ => 1
  | .nil => 1
  | .ptr d => uptoBulk d + 1
  | .slice elems spare => uptoBulkAll elems + uptoBulkAll spare + 1
  | .agg parts => uptoBulkAll parts + 1
  | .iface _ d => uptoBulk d + 1
  | .map entries => uptoBulkEntries entries + 1
  | .held _ => 1
def uptoBulkAll {H : Type} : List (DataW H) → Nat
  | [] => 0
  | d :: r => uptoBulk d + uptoBulkAll r
def uptoBulkEntries {H : Type} : List (Lit × DataW H) → Nat
  | [] => 0
  | x :: r => uptoBulkEntry x + uptoBulkEntries r
def uptoBulkEntry {H : Type} : Lit × DataW H → Nat
  | (.string bytes, d) => bytes.length + uptoBulk d + 1
  | (_, d) => uptoBulk d + 1
 end
def uptoSmall : (H : Type) → List (DataW H) → Bool := fun _ ds => decide (uptoBulkAll ds ≤ 1048576)
def OpenSpec.upto (s : _root_.Go.ChangeSpec) : _root_.Go.OpenSpec := { _root_.Go.OpenSpec.ofChange s with cond := some uptoSmall }

/-- 'rampartlaw19.FrameCounts', WHERE WHAT IT READS IS OF BULK AT MOST 1048576: true; the input reads as it did. -/
def frameCountsUptoRow : OpenClaim := { program := "ytmfmliblieemiaa", sum := "26d66e91bcf2227794a77eebd6593f466d6e4959c5cba0ca2561d0bcc1008524", func := "rampart/rampartlaw19.FrameCounts", spec := "frameCounts", unfollowed := true, recurses := true, apart := false, narrowed := true }
def FrameCountsUptoSaid : Prop := frameCountsUptoRow.holds Try.pinned (OpenSpec.upto frameCountsSpec)

/-- 'rampartlaw19.FrameParts', WHERE WHAT IT READS IS OF BULK AT MOST 1048576: true; the input reads as it did. -/
def framePartsUptoRow : OpenClaim := { program := "ytmfmliblieemiaa", sum := "26d66e91bcf2227794a77eebd6593f466d6e4959c5cba0ca2561d0bcc1008524", func := "rampart/rampartlaw19.FrameParts", spec := "frameParts", unfollowed := true, recurses := true, apart := false, narrowed := true }
def FramePartsUptoSaid : Prop := framePartsUptoRow.holds Try.pinned (OpenSpec.upto framePartsSpec)

/-- 'rampartlaw19.FrameNear', WHERE WHAT IT READS IS OF BULK AT MOST 1048576: true; the input reads as it did. -/
def frameNearUptoRow : OpenClaim := { program := "ytmfmliblieemiaa", sum := "26d66e91bcf2227794a77eebd6593f466d6e4959c5cba0ca2561d0bcc1008524", func := "rampart/rampartlaw19.FrameNear", spec := "frameNear", unfollowed := true, recurses := true, apart := false, narrowed := true }
def FrameNearUptoSaid : Prop := frameNearUptoRow.holds Try.pinned (OpenSpec.upto frameNearSpec)

/-- 'rampartlaw19.FrameOwners', WHERE WHAT IT READS IS OF BULK AT MOST 1048576: true; the input reads as it did. -/
def frameOwnersUptoRow : OpenClaim := { program := "ytmfmliblieemiaa", sum := "26d66e91bcf2227794a77eebd6593f466d6e4959c5cba0ca2561d0bcc1008524", func := "rampart/rampartlaw19.FrameOwners", spec := "frameOwners", unfollowed := true, recurses := true, apart := false, narrowed := true }
def FrameOwnersUptoSaid : Prop := frameOwnersUptoRow.holds Try.pinned (OpenSpec.upto frameOwnersSpec)

/-- 'rampartlaw19.FrameRounds', WHERE WHAT IT READS IS OF BULK AT MOST 1048576: true; the input reads as it did. -/
def frameRoundsUptoRow : OpenClaim := { program := "ytmfmliblieemiaa", sum := "26d66e91bcf2227794a77eebd6593f466d6e4959c5cba0ca2561d0bcc1008524", func := "rampart/rampartlaw19.FrameRounds", spec := "frameRounds", unfollowed := true, recurses := true, apart := false, narrowed := true }
def FrameRoundsUptoSaid : Prop := frameRoundsUptoRow.holds Try.pinned (OpenSpec.upto frameRoundsSpec)

/-- 'rampartlaw19.FrameTells', WHERE WHAT IT READS IS OF BULK AT MOST 1048576: true; the input reads as it did. -/
def frameTellsUptoRow : OpenClaim := { program := "ytmfmliblieemiaa", sum := "26d66e91bcf2227794a77eebd6593f466d6e4959c5cba0ca2561d0bcc1008524", func := "rampart/rampartlaw19.FrameTells", spec := "frameTells", unfollowed := true, recurses := true, apart := false, narrowed := true }
def FrameTellsUptoSaid : Prop := frameTellsUptoRow.holds Try.pinned (OpenSpec.upto frameTellsSpec)

/-- 'rampartlaw19.FrameGaps', WHERE WHAT IT READS IS OF BULK AT MOST 1048576: true; the input reads as it did. -/
def frameGapsUptoRow : OpenClaim := { program := "ytmfmliblieemiaa", sum := "26d66e91bcf2227794a77eebd6593f466d6e4959c5cba0ca2561d0bcc1008524", func := "rampart/rampartlaw19.FrameGaps", spec := "frameGaps", unfollowed := true, recurses := true, apart := false, narrowed := true }
def FrameGapsUptoSaid : Prop := frameGapsUptoRow.holds Try.pinned (OpenSpec.upto frameGapsSpec)

end Rows
end Go.Proofs.Ytmfmliblieemiaa
