/- Words of the walks: lines of the kit's print, those that this claim needs (wip/trim.py). -/
import Derived.Test.YtgjljbaadglpnaaDoorWInv
import Derived.Test.YtgjljbaadglpnaaDoorWFootNe
namespace Go.Proofs.YtgjljbaadglpnaaDoorW.PrintWords
open Go.RowKit
end Go.Proofs.YtgjljbaadglpnaaDoorW.PrintWords
namespace Go.Proofs.YtgjljbaadglpnaaDoorW.PrintLast
section
variable {ops : Array Oper} {a : Act} {o og : Oper} {g : Nat} {t : Tmp} {u : Bool}
end
end Go.Proofs.YtgjljbaadglpnaaDoorW.PrintLast
