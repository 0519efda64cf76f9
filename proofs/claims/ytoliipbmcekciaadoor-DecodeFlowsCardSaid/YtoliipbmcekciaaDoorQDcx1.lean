/- Functions that several claims of this seat share: Lean lines written by a program out of the loaded program's print. -/
import Derived.Test.YtoliipbmcekciaaDoorQDcx0
namespace Go.Proofs.YtoliipbmcekciaaDoor.QDc
open Go.RowKit Go.Proofs.YtoliipbmcekciaaDoorW.PrintWords Go.Proofs.YtoliipbmcekciaaDoorW.PrintLast Go.Proofs.YtoliipbmcekciaaDoorW.PrintMore
attribute [local go_sem] max2_int min2_int max_two min_two max_three min_three max_four min_four   -- for this text's walks alone
set_option linter.unusedVariables false
set_option linter.unusedSimpArgs false

theorem eqA55 (d : Nat) (w : World) (x0 y0 : Int) (x1 y1 : Int) (x2 y2 : Int) (x3 y3 : Int) (x4 y4 : Int) :
    (Op.equalIn (d + 2) 55 (.agg #[.int .u8 x0, .int .u8 x1, .int .u8 x2, .int .u32 x3, .int .u64 x4]) (.agg #[.int .u8 y0, .int .u8 y1, .int .u8 y2, .int .u32 y3, .int .u64 y4])).run Tryd.prog w = .ok (x0 == y0 && (x1 == y1 && (x2 == y2 && (x3 == y3 && (x4 == y4))))) w := by
  refine eqA_of Tryd.underlying55 (by kernel_rfl) ?_
  refine eqf_cons (by rfl) (by go_simp; rfl) (by go_simp; rfl) (by go_simp) ?_
  refine eqf_cons (by rfl) (by go_simp; rfl) (by go_simp; rfl) (by go_simp) ?_
  refine eqf_cons (by rfl) (by go_simp; rfl) (by go_simp; rfl) (by go_simp) ?_
  refine eqf_cons (by rfl) (by go_simp; rfl) (by go_simp; rfl) (by go_simp) ?_
  exact eqf_last (by rfl) (by go_simp; rfl) (by go_simp; rfl) (by go_simp)
end Go.Proofs.YtoliipbmcekciaaDoor.QDc
namespace Go.Proofs.YtoliipbmcekciaaDoor.QDc
open Go.RowKit Go.Proofs.YtoliipbmcekciaaDoorW.PrintWords Go.Proofs.YtoliipbmcekciaaDoorW.PrintLast Go.Proofs.YtoliipbmcekciaaDoorW.PrintMore
attribute [local go_sem] max2_int min2_int max_two min_two max_three min_three max_four min_four   -- for this text's walks alone
set_option linter.unusedVariables false
set_option linter.unusedSimpArgs false

theorem eqA75 (d : Nat) (w : World) (x0 y0 : Int) (x1 y1 : Int) (x2 y2 : Int) (x3 y3 : Int) (x4 y4 : Int) (x5 y5 : Bool) :
    (Op.equalIn (d + 3) 75 (.agg #[.int .u8 x0, .int .u8 x1, .int .u8 x2, .int .u32 x3, .int .u64 x4, .bool x5]) (.agg #[.int .u8 y0, .int .u8 y1, .int .u8 y2, .int .u32 y3, .int .u64 y4, .bool y5])).run Tryd.prog w = .ok ((x0 == y0 && (x1 == y1 && (x2 == y2 && (x3 == y3 && (x4 == y4))))) && (x5 == y5)) w := by
  refine eqA_of Tryd.underlying75 (by kernel_rfl) ?_
  refine eqf_cons (by rfl) (by go_simp) (by go_simp) (eqA55 (d + 0) w _ _ _ _ _ _ _ _ _ _) ?_
  exact eqf_last (by rfl) (by go_simp; rfl) (by go_simp; rfl) (by go_simp)
end Go.Proofs.YtoliipbmcekciaaDoor.QDc
