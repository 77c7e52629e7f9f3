/- Proved here: functions of the program return what the Lean functions beside them say, or a law of the program holds. Conditions: those of each theorem. Written for this claim by a program: the printer of the kit, with some contracts given. -/
import Derived.Test.YtojemmipkpckbaaPx0
namespace Go.Proofs.Ytojemmipkpckbaa.P
open Go.RowKit Go.Proofs.YtojemmipkpckbaaG Go.Proofs.YtojemmipkpckbaaW.PrintWords Go.Proofs.YtojemmipkpckbaaW.PrintLast Go.Proofs.YtojemmipkpckbaaW.PrintMore
attribute [local go_sem] str_gtr str_geq str_leq max2_int min2_int max_two min_two max_three min_three max_four min_four   -- for this text's walks alone
set_option linter.unusedVariables false
set_option linter.unusedSimpArgs false

theorem eqA39 (d : Nat) (w : World) (x0 y0 : ByteArray) (x1 y1 : Int) (x2 y2 : Int) :
    (Op.equalIn (d + 2) 39 (.agg #[.string x0, .int .u64 x1, .int .u8 x2]) (.agg #[.string y0, .int .u64 y1, .int .u8 y2])).run Try.prog w = .ok (x0.toList == y0.toList && (x1 == y1 && (x2 == y2))) w := by
  refine eqA_of Try.underlying39 (by kernel_rfl) ?_
  refine eqf_cons (by rfl) (by go_simp; rfl) (by go_simp; rfl) (by go_simp) ?_
  refine eqf_cons (by rfl) (by go_simp; rfl) (by go_simp; rfl) (by go_simp) ?_
  exact eqf_last (by rfl) (by go_simp; rfl) (by go_simp; rfl) (by go_simp)
end Go.Proofs.Ytojemmipkpckbaa.P
