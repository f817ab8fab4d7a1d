-- Printed by a program of this claim's writer (wip/ext): an extension of the kit's print.
import Derived.Test.YtkpphlimnnifkaaPClaimFallsx0
import Derived.Test.YtkpphlimnnifkaaPClaimFallsx6
import Derived.Test.YtkpphlimnnifkaaPClaimFallsx10
namespace Go.Proofs.Ytkpphlimnnifkaa.PClaimFalls
open Go.RowKit Go.Proofs.YtkpphlimnnifkaaW.PrintWords Go.Proofs.YtkpphlimnnifkaaW.PrintLast Go.Proofs.YtkpphlimnnifkaaW.PrintMore
set_option maxHeartbeats 8000000
set_option maxRecDepth 100000
attribute [local go_sem] max2_int min2_int max_two min_two max_three min_three max_four min_four   -- for this text's walks alone
set_option linter.unusedVariables false
set_option linter.unusedSimpArgs false

end Go.Proofs.Ytkpphlimnnifkaa.PClaimFalls
