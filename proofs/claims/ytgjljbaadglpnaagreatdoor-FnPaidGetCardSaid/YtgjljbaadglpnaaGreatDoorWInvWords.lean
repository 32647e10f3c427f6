/- Words of the walks: lines of the kit's print, those that this claim needs (wip/trim.py). -/
import Derived.Test.YtgjljbaadglpnaaGreatDoorWInv
import Derived.Test.YtgjljbaadglpnaaGreatDoorWFootNe
namespace Go.Proofs.YtgjljbaadglpnaaGreatDoorW.PrintWords
open Go.RowKit
end Go.Proofs.YtgjljbaadglpnaaGreatDoorW.PrintWords
namespace Go.Proofs.YtgjljbaadglpnaaGreatDoorW.PrintLast
section
variable {ops : Array Oper} {a : Act} {o og : Oper} {g : Nat} {t : Tmp} {u : Bool}
end
end Go.Proofs.YtgjljbaadglpnaaGreatDoorW.PrintLast
