
import Derived.Test.YtloadbbndnmdlaaWInv
import Derived.Test.YtloadbbndnmdlaaWFootNe
namespace Go.Proofs.YtloadbbndnmdlaaW.PrintWords
open Go.RowKit
end Go.Proofs.YtloadbbndnmdlaaW.PrintWords
namespace Go.Proofs.YtloadbbndnmdlaaW.PrintLast
section
variable {ops : Array Oper} {a : Act} {o og : Oper} {g : Nat} {t : Tmp} {u : Bool}
end
end Go.Proofs.YtloadbbndnmdlaaW.PrintLast

