
import Derived.Test.YtolcbijcoafkpaaWInv
import Derived.Test.YtolcbijcoafkpaaWFootNe
namespace Go.Proofs.YtolcbijcoafkpaaW.PrintWords
open Go.RowKit
end Go.Proofs.YtolcbijcoafkpaaW.PrintWords
namespace Go.Proofs.YtolcbijcoafkpaaW.PrintLast
section
variable {ops : Array Oper} {a : Act} {o og : Oper} {g : Nat} {t : Tmp} {u : Bool}
end
end Go.Proofs.YtolcbijcoafkpaaW.PrintLast

