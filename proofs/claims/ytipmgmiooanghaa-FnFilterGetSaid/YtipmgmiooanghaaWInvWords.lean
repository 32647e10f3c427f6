/- Words of the walks: lines of the kit's print, those that this claim needs (wip/trim.py). -/
import Derived.Test.YtipmgmiooanghaaWInv
import Derived.Test.YtipmgmiooanghaaWFootNe
namespace Go.Proofs.YtipmgmiooanghaaW.PrintWords
open Go.RowKit
end Go.Proofs.YtipmgmiooanghaaW.PrintWords
namespace Go.Proofs.YtipmgmiooanghaaW.PrintLast
section
variable {ops : Array Oper} {a : Act} {o og : Oper} {g : Nat} {t : Tmp} {u : Bool}
end
end Go.Proofs.YtipmgmiooanghaaW.PrintLast
