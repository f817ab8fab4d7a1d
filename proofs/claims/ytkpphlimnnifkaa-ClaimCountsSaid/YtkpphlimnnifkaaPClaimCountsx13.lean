import Derived.Test.YtkpphlimnnifkaaPClaimCountsx0
import Derived.Test.YtkpphlimnnifkaaPClaimCountsx11
import Derived.Test.YtkpphlimnnifkaaPClaimCountsx12
namespace Go.Proofs.Ytkpphlimnnifkaa.PClaimCounts
open Go.RowKit Go.Proofs.YtkpphlimnnifkaaW.PrintWords Go.Proofs.YtkpphlimnnifkaaW.PrintLast Go.Proofs.YtkpphlimnnifkaaW.PrintMore
set_option maxHeartbeats 8000000
set_option maxRecDepth 100000
attribute [local go_sem] max2_int min2_int max_two min_two max_three min_three max_four min_four
set_option linter.unusedVariables false
set_option linter.unusedSimpArgs false
end Go.Proofs.Ytkpphlimnnifkaa.PClaimCounts
