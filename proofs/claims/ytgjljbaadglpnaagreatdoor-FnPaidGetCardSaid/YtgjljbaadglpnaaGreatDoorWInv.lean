/- Words of the walks: lines of the kit's print, those that this claim needs (wip/trim.py). -/
import Derived.Test.YtgjljbaadglpnaaGreatDoorWTab
namespace Go.Proofs.YtgjljbaadglpnaaGreatDoorW.PrintLast
def up (b : Nat → Bool) (i : Nat) : Nat → Bool := fun j => if j = i then true else b j
section
variable {P : Program} {ops : Array Oper} {Q : Exit → Act → World → Prop} {md : Region.Mode} {T : Bool × List (List Nat × List Nat)} {B : List Nat} {O : List Nat} {b : Nat → Bool} {i j n : Nat}
end
end Go.Proofs.YtgjljbaadglpnaaGreatDoorW.PrintLast
