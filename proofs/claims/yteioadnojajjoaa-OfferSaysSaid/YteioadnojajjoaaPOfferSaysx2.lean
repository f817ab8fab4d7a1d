-- Printed by a program of this claim's writer (wip/ext): an extension of the kit's print.
import Derived.Test.YteioadnojajjoaaPOfferSaysx0
import Derived.Test.YteioadnojajjoaaPOfferSaysx1
namespace Go.Proofs.Yteioadnojajjoaa.POfferSays
open Go.RowKit Go.Proofs.YteioadnojajjoaaW.PrintWords Go.Proofs.YteioadnojajjoaaW.PrintLast Go.Proofs.YteioadnojajjoaaW.PrintMore
attribute [local go_sem] max2_int min2_int max_two min_two max_three min_three max_four min_four   -- for this text's walks alone
set_option linter.unusedVariables false
set_option linter.unusedSimpArgs false

theorem eqA23 (d : Nat) (w : World) (x0 y0 : Int) (x1 y1 : Int) (x2 y2 : Int) (x3 y3 : Int) :
    (Op.equalIn (d + 3) 23 (.agg #[.int .i64 x0, .int .i64 x1, .int .i64 x2, .int .i64 x3]) (.agg #[.int .i64 y0, .int .i64 y1, .int .i64 y2, .int .i64 y3])).run Try.prog w = .ok ((x0 == y0 && (x1 == y1)) && ((x2 == y2 && (x3 == y3)))) w := by
  refine eqArr_of (c := 2) Try.underlying23 (by kernel_rfl) (by kernel_rfl) ?_
  refine eqi_cons (by go_simp) (by go_simp) (eqA22 (d + 0) w _ _ _ _) ?_
  exact eqi_last (by go_simp) (by go_simp) (eqA22 (d + 0) w _ _ _ _)
theorem eqA25 (d : Nat) (w : World) (x0 y0 : Int) (x1 y1 : Int) (x2 y2 : Int) (x3 y3 : Int) (x4 y4 : Int) (x5 y5 : Int) :
    (Op.equalIn (d + 4) 25 (.agg #[.int .i64 x0, .int .i64 x1, .int .i64 x2, .int .i64 x3, .int .i64 x4, .int .i64 x5]) (.agg #[.int .i64 y0, .int .i64 y1, .int .i64 y2, .int .i64 y3, .int .i64 y4, .int .i64 y5])).run Try.prog w = .ok ((x0 == y0 && (x1 == y1)) && (((x2 == y2 && (x3 == y3)) && ((x4 == y4 && (x5 == y5)))))) w := by
  refine eqA_of Try.underlying25 (by kernel_rfl) ?_
  refine eqf_cons (by rfl) (by go_simp) (by go_simp) (eqA22 (d + 1) w _ _ _ _) ?_
  exact eqf_last (by rfl) (by go_simp) (by go_simp) (eqA23 (d + 0) w _ _ _ _ _ _ _ _)
end Go.Proofs.Yteioadnojajjoaa.POfferSays
