-- Printed by a program of this claim's writer (wip/ext): an extension of the kit's print.
import Derived.Test.YteioadnojajjoaaPOfferSaysx0
namespace Go.Proofs.Yteioadnojajjoaa.POfferSays
open Go.RowKit Go.Proofs.YteioadnojajjoaaW.PrintWords Go.Proofs.YteioadnojajjoaaW.PrintLast Go.Proofs.YteioadnojajjoaaW.PrintMore
attribute [local go_sem] max2_int min2_int max_two min_two max_three min_three max_four min_four   -- for this text's walks alone
set_option linter.unusedVariables false
set_option linter.unusedSimpArgs false

theorem eqA22 (d : Nat) (w : World) (x0 y0 : Int) (x1 y1 : Int) :
    (Op.equalIn (d + 2) 22 (.agg #[.int .i64 x0, .int .i64 x1]) (.agg #[.int .i64 y0, .int .i64 y1])).run Try.prog w = .ok (x0 == y0 && (x1 == y1)) w := by
  refine eqArr_of (c := 1) Try.underlying22 (by kernel_rfl) (by kernel_rfl) ?_
  refine eqi_cons (by go_simp; rfl) (by go_simp; rfl) (by go_simp) ?_
  exact eqi_last (by go_simp; rfl) (by go_simp; rfl) (by go_simp)
end Go.Proofs.Yteioadnojajjoaa.POfferSays
