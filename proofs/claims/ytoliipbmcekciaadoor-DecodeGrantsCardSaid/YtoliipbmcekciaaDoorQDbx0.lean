/- Functions that several claims of this seat share: Lean lines written by a program out of the loaded program's print. -/
import Derived.Test.YtoliipbmcekciaaDoorProg
import Derived.Below
import Derived.Deep.Draws
import Derived.Deep.AppendLies
import Derived.Maps.AppendAt
import Derived.OwnWalk
import Derived.Laws.BytesArg
import Derived.Laws.MakeOwn
import Derived.Laws.OwnMore
import Derived.Deep.OwnRows
import Derived.Tactics
import Derived.Lib.ConvBytes
import Derived.Laws.Slices
import Derived.WalkKit
import Derived.KernelRfl
import Derived.RowKit3
import Derived.Deep.LoopGhost
import Derived.Deep.QuietTactic
import Derived.BigQuiet
import Derived.WideLaws
import Derived.Deep.DeepCutAuto
import Derived.Deep.CutBlock
import Derived.Deep.RegionHeld3
import Derived.Laws.Rows
import Derived.Lib.AppendStr
import Derived.ArgAppend
import Derived.Laws.IdiomCopy
import Derived.OrdersHeld
import Derived.Laws.BitsLemmas
import Derived.RowKit
import Derived.Test.YtoliipbmcekciaaDoorWWords
import Derived.Test.YtoliipbmcekciaaDoorWLast
import Derived.Test.YtoliipbmcekciaaDoorWTab
import Derived.Test.YtoliipbmcekciaaDoorWFour
import Derived.Test.YtoliipbmcekciaaDoorWQPut
import Derived.Test.YtoliipbmcekciaaDoorWApart
import Derived.Test.YtoliipbmcekciaaDoorWArr
import Derived.Test.YtoliipbmcekciaaDoorWZeros
import Derived.Test.YtoliipbmcekciaaDoorWFoot
import Derived.Test.YtoliipbmcekciaaDoorWKept
import Derived.Test.YtoliipbmcekciaaDoorWShare
import Derived.Test.YtoliipbmcekciaaDoorWN
import Derived.Test.YtoliipbmcekciaaDoorWFootNe
import Derived.Test.YtoliipbmcekciaaDoorWAt
import Derived.Test.YtoliipbmcekciaaDoorWEqStruct
import Derived.Test.YtoliipbmcekciaaDoorWRepsOne
import Derived.Test.YtoliipbmcekciaaDoorWInv
import Derived.Test.YtoliipbmcekciaaDoorWInvWords
import Derived.Test.YtoliipbmcekciaaDoorWGuard
import Derived.Test.YtoliipbmcekciaaDoorWNEv
import Derived.Test.YtoliipbmcekciaaDoorWMore
namespace Go.Proofs.YtoliipbmcekciaaDoor.QDb
open Go.RowKit Go.Proofs.YtoliipbmcekciaaDoorW.PrintWords Go.Proofs.YtoliipbmcekciaaDoorW.PrintLast Go.Proofs.YtoliipbmcekciaaDoorW.PrintMore
attribute [local go_sem] max2_int min2_int max_two min_two max_three min_three max_four min_four   -- for this text's walks alone
set_option linter.unusedVariables false
set_option linter.unusedSimpArgs false



def errW : Option Int → Value
  | none => .nilIface
  | some c => .iface 0 (.int .i64 c)
theorem errW_none : errW none = .nilIface := rfl
theorem errW_some (c : Int) : errW (some c) = .iface 0 (.int .i64 c) := rfl

-- the values' own types

end Go.Proofs.YtoliipbmcekciaaDoor.QDb
