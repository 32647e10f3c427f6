/- Words of the walks: lines of the kit's print, those that this claim needs (wip/trim.py). -/
import Derived.Test.YtgjljbaadglpnaaGreatDoorWTab
namespace Go.Proofs.YtgjljbaadglpnaaGreatDoorW.PrintLast
section
variable {P : Program} {ops : Array Oper} {Q : Exit → Act → World → Prop} {md : Region.Mode} {S : World → Prop} {ds : List Nat} {T : Bool × List (List Nat × List Nat)}
end
end Go.Proofs.YtgjljbaadglpnaaGreatDoorW.PrintLast
