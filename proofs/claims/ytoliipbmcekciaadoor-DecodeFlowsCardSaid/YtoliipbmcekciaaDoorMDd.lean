/- Decode: rights, by the kernel. -/
import Derived.Test.YtoliipbmcekciaaDoorQDdx1
import Derived.Laws.Bits64b
namespace Go.Proofs.YtoliipbmcekciaaDoor.QDd
open Go.RowKit Go.Proofs.YtoliipbmcekciaaDoorW.PrintWords Go.Proofs.YtoliipbmcekciaaDoorW.PrintLast Go.Proofs.YtoliipbmcekciaaDoorW.PrintMore
set_option linter.unusedVariables false
set_option linter.unusedSimpArgs false
theorem has_consts : ∀ a : Fin 256, rampartref11_Has.f 9 (a.val : Int) 1 = some (bits .and .u8 (a.val : Int) 1 != 0) ∧ rampartref11_Has.f 9 (a.val : Int) 2 = some (bits .and .u8 (a.val : Int) 2 != 0) ∧ rampartref11_Has.f 9 (a.val : Int) 4 = some (bits .and .u8 (a.val : Int) 4 != 0) := by decide +kernel
theorem rights_proper : ∀ a : Fin 256, (bits .andNot .u8 (a.val : Int) 7 == 0) = decide ((a.val : Int) ≤ 7) ∧ ((bits .and .u8 (a.val : Int) 1 != 0) || (bits .and .u8 (a.val : Int) 2 != 0)) = !(Int.tmod (a.val : Int) 4 == 0) := by decide +kernel
theorem has_all : ∀ a : Fin 256, ∀ b : Fin 256, rampartref11_Has.f 9 (a.val : Int) (b.val : Int) = some (bits .and .u8 (a.val : Int) (b.val : Int) == (b.val : Int)) := by decide +kernel
end Go.Proofs.YtoliipbmcekciaaDoor.QDd
