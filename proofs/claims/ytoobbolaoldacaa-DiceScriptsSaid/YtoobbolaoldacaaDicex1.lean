/- The functions that the statements of this group reach, each as a plain Lean function, and a proof that the Go function comes to what it says (written by a program of this session over the kit's print). -/
import Derived.Test.YtoobbolaoldacaaDicex0
namespace Go.Proofs.Ytoobbolaoldacaa.Dice
open Go.RowKit Go.Proofs.YtoobbolaoldacaaW.PrintWords Go.Proofs.YtoobbolaoldacaaW.PrintLast Go.Proofs.YtoobbolaoldacaaW.PrintMore
attribute [local go_sem] max2_int min2_int max_two min_two max_three min_three max_four min_four   -- for this text's walks alone
set_option linter.unusedVariables false
set_option linter.unusedSimpArgs false

theorem eqA27 (d : Nat) (w : World) (x0 y0 : Int) (x1 y1 : Int) :
    (Op.equalIn (d + 2) 27 (.agg #[.int .i64 x0, .int .i64 x1]) (.agg #[.int .i64 y0, .int .i64 y1])).run Try.prog w = .ok (x0 == y0 && (x1 == y1)) w := by
  refine eqA_of Try.underlying27 (by kernel_rfl) ?_
  refine eqf_cons (by rfl) (by go_simp; rfl) (by go_simp; rfl) (by go_simp) ?_
  exact eqf_last (by rfl) (by go_simp; rfl) (by go_simp; rfl) (by go_simp)
end Go.Proofs.Ytoobbolaoldacaa.Dice
