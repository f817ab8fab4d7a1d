
import Derived.Test.YtkpphlimnnifkaaWInv
import Derived.Test.YtkpphlimnnifkaaWFootNe
namespace Go.Proofs.YtkpphlimnnifkaaW.PrintWords
open Go.RowKit
end Go.Proofs.YtkpphlimnnifkaaW.PrintWords
namespace Go.Proofs.YtkpphlimnnifkaaW.PrintLast
section
variable {ops : Array Oper} {a : Act} {o og : Oper} {g : Nat} {t : Tmp} {u : Bool}
end
end Go.Proofs.YtkpphlimnnifkaaW.PrintLast

