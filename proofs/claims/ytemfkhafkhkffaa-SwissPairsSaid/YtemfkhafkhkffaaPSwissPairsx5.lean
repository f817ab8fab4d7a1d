-- Printed by a program of this claim's writer (wip/ext): an extension of the kit's print.
import Derived.Test.YtemfkhafkhkffaaPSwissPairsx0
import Derived.Test.YtemfkhafkhkffaaPSwissPairsx1
import Derived.Test.YtemfkhafkhkffaaPSwissPairsx2
import Derived.Test.YtemfkhafkhkffaaPSwissPairsx3
import Derived.Test.YtemfkhafkhkffaaPSwissPairsx4
namespace Go.Proofs.Ytemfkhafkhkffaa.PSwissPairs
open Go.RowKit Go.Proofs.YtemfkhafkhkffaaW.PrintWords Go.Proofs.YtemfkhafkhkffaaW.PrintLast Go.Proofs.YtemfkhafkhkffaaW.PrintMore
set_option maxHeartbeats 8000000
set_option maxRecDepth 100000
attribute [local go_sem] max2_int min2_int max_two min_two max_three min_three max_four min_four   -- for this text's walks alone
set_option linter.unusedVariables false
set_option linter.unusedSimpArgs false

attribute [local go_sem high] eqA39
end Go.Proofs.Ytemfkhafkhkffaa.PSwissPairs
