/- How arguments that hold structs, strings and slices are laid open, kind by kind: nothing of the program. -/
import Derived.Test.YtgjljbaadglpnaaGreatDoorWWords
import Derived.Deep.Slices
import Derived.Deep.Fields
import Derived.ChangeSame
import Derived.ChangeArms
import Derived.Lib.SmallJoins
namespace Go.Proofs.YtgjljbaadglpnaaGreatDoor.Po
open Go Go.RowKit Go.Joins Go.ChangeShapes Go.WideShapes Go.Deep Go.Proofs.YtgjljbaadglpnaaGreatDoorW.PrintWords
set_option linter.unusedVariables false
section
variable {H : Type} {enc : TypeId × Value → H} {P : Program} {W : World} {base : Nat} {spare : Nat → Bool} {held : Bool}
end
end Go.Proofs.YtgjljbaadglpnaaGreatDoor.Po
