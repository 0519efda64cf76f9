/- Functions that several claims of this seat share: Lean lines written by a program out of the loaded program's print. -/
import Derived.Test.YtooddkaepkjidaaProg
import Derived.Below
import Derived.Deep.Draws
import Derived.Deep.AppendLies
import Derived.Maps.AppendAt
import Derived.OwnWalk
import Derived.Laws.BytesArg
import Derived.Laws.MakeOwn
import Derived.Laws.OwnMore
import Derived.Deep.OwnRows
import Derived.Tactics
import Derived.Lib.ConvBytes
import Derived.Laws.Slices
import Derived.WalkKit
import Derived.KernelRfl
import Derived.RowKit3
import Derived.Deep.LoopGhost
import Derived.Deep.QuietTactic
import Derived.BigQuiet
import Derived.WideLaws
import Derived.Deep.DeepCutAuto
import Derived.Deep.CutBlock
import Derived.Deep.RegionHeld3
import Derived.Laws.Rows
import Derived.Lib.AppendStr
import Derived.ArgAppend
import Derived.Laws.IdiomCopy
import Derived.OrdersHeld
import Derived.Laws.BitsLemmas
import Derived.RowKit
import Derived.Test.YtooddkaepkjidaaWWords
import Derived.Test.YtooddkaepkjidaaWLast
import Derived.Test.YtooddkaepkjidaaWTab
import Derived.Test.YtooddkaepkjidaaWFour
import Derived.Test.YtooddkaepkjidaaWQPut
import Derived.Test.YtooddkaepkjidaaWApart
import Derived.Test.YtooddkaepkjidaaWArr
import Derived.Test.YtooddkaepkjidaaWZeros
import Derived.Test.YtooddkaepkjidaaWFoot
import Derived.Test.YtooddkaepkjidaaWKept
import Derived.Test.YtooddkaepkjidaaWShare
import Derived.Test.YtooddkaepkjidaaWN
import Derived.Test.YtooddkaepkjidaaWFootNe
import Derived.Test.YtooddkaepkjidaaWAt
import Derived.Test.YtooddkaepkjidaaWEqStruct
import Derived.Test.YtooddkaepkjidaaWRepsOne
import Derived.Test.YtooddkaepkjidaaWInv
import Derived.Test.YtooddkaepkjidaaWInvWords
import Derived.Test.YtooddkaepkjidaaWGuard
import Derived.Test.YtooddkaepkjidaaWNEv
import Derived.Test.YtooddkaepkjidaaWMore
namespace Go.Proofs.Ytooddkaepkjidaa.QSt
open Go.RowKit Go.Proofs.YtooddkaepkjidaaW.PrintWords Go.Proofs.YtooddkaepkjidaaW.PrintLast Go.Proofs.YtooddkaepkjidaaW.PrintMore
attribute [local go_sem] max2_int min2_int max_two min_two max_three min_three max_four min_four   -- for this text's walks alone
set_option linter.unusedVariables false
set_option linter.unusedSimpArgs false



def errW : Option Int → Value
  | none => .nilIface
  | some c => .iface 0 (.int .i64 c)
theorem errW_none : errW none = .nilIface := rfl
theorem errW_some (c : Int) : errW (some c) = .iface 0 (.int .i64 c) := rfl

theorem info27 : (Try.prog.info? 27).map (fun i => (i.zero, i.size, i.bytes)) = some (some (.int .i64 0), 1, 8) := by kernel_rfl
-- the values' own types

end Go.Proofs.Ytooddkaepkjidaa.QSt
