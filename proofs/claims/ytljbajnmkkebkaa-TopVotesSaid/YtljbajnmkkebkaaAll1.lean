/- What the Go functions named below answer, each as a plain Lean function, and that its call comes to just that answer. No condition. Written by a program of this session (wip/myprint.py), which runs the kit's print with changes of its own. -/
import Derived.Test.YtljbajnmkkebkaaAll0
namespace Go.Proofs.Ytljbajnmkkebkaa.All
open Go.RowKit Go.Proofs.YtljbajnmkkebkaaW.PrintWords Go.Proofs.YtljbajnmkkebkaaW.PrintLast Go.Proofs.YtljbajnmkkebkaaW.PrintMore
attribute [local go_sem] max2_int min2_int max_two min_two max_three min_three max_four min_four   -- for this text's walks alone
set_option linter.unusedVariables false
set_option linter.unusedSimpArgs false

theorem eqA44 (d : Nat) (w : World) (x0 y0 : Int) (x1 y1 : Int) :
  (Op.equalIn (d + 2) 44 (.agg #[.int .i64 x0, .int .i64 x1]) (.agg #[.int .i64 y0, .int .i64 y1])).run Try.prog w = .ok (x0 == y0 && (x1 == y1)) w := by
 refine eqA_of Try.underlying44 (by kernel_rfl) ?_
 refine eqf_cons (by rfl) (by go_simp; rfl) (by go_simp; rfl) (by go_simp) ?_
 exact eqf_last (by rfl) (by go_simp; rfl) (by go_simp; rfl) (by go_simp)
end Go.Proofs.Ytljbajnmkkebkaa.All
