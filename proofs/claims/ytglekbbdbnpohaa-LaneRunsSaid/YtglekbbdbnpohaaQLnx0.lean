/- Functions that several claims of this seat share: Lean lines written by a program out of the loaded program's print. -/
import Derived.Test.YtglekbbdbnpohaaProg
import Derived.Below
import Derived.Deep.Draws
import Derived.Deep.AppendLies
import Derived.Maps.AppendAt
import Derived.OwnWalk
import Derived.Laws.BytesArg
import Derived.Laws.MakeOwn
import Derived.Laws.OwnMore
import Derived.Deep.OwnRows
import Derived.Tactics
import Derived.Lib.ConvBytes
import Derived.Laws.Slices
import Derived.WalkKit
import Derived.KernelRfl
import Derived.RowKit3
import Derived.Deep.LoopGhost
import Derived.Deep.QuietTactic
import Derived.BigQuiet
import Derived.WideLaws
import Derived.Deep.DeepCutAuto
import Derived.Deep.CutBlock
import Derived.Deep.RegionHeld3
import Derived.Laws.Rows
import Derived.Lib.AppendStr
import Derived.ArgAppend
import Derived.Laws.IdiomCopy
import Derived.OrdersHeld
import Derived.Laws.BitsLemmas
import Derived.RowKit
import Derived.Test.YtglekbbdbnpohaaWWords
import Derived.Test.YtglekbbdbnpohaaWLast
import Derived.Test.YtglekbbdbnpohaaWTab
import Derived.Test.YtglekbbdbnpohaaWFour
import Derived.Test.YtglekbbdbnpohaaWQPut
import Derived.Test.YtglekbbdbnpohaaWApart
import Derived.Test.YtglekbbdbnpohaaWArr
import Derived.Test.YtglekbbdbnpohaaWZeros
import Derived.Test.YtglekbbdbnpohaaWFoot
import Derived.Test.YtglekbbdbnpohaaWKept
import Derived.Test.YtglekbbdbnpohaaWShare
import Derived.Test.YtglekbbdbnpohaaWN
import Derived.Test.YtglekbbdbnpohaaWFootNe
import Derived.Test.YtglekbbdbnpohaaWAt
import Derived.Test.YtglekbbdbnpohaaWEqStruct
import Derived.Test.YtglekbbdbnpohaaWRepsOne
import Derived.Test.YtglekbbdbnpohaaWInv
import Derived.Test.YtglekbbdbnpohaaWInvWords
import Derived.Test.YtglekbbdbnpohaaWGuard
import Derived.Test.YtglekbbdbnpohaaWNEv
import Derived.Test.YtglekbbdbnpohaaWMore
namespace Go.Proofs.Ytglekbbdbnpohaa.QLn
open Go.RowKit Go.Proofs.YtglekbbdbnpohaaW.PrintWords Go.Proofs.YtglekbbdbnpohaaW.PrintLast Go.Proofs.YtglekbbdbnpohaaW.PrintMore
attribute [local go_sem] max2_int min2_int max_two min_two max_three min_three max_four min_four   -- for this text's walks alone
set_option linter.unusedVariables false
set_option linter.unusedSimpArgs false



def errW : Option Int → Value
  | none => .nilIface
  | some c => .iface 0 (.int .i64 c)
theorem errW_none : errW none = .nilIface := rfl
theorem errW_some (c : Int) : errW (some c) = .iface 0 (.int .i64 c) := rfl

-- the values' own types

end Go.Proofs.Ytglekbbdbnpohaa.QLn
