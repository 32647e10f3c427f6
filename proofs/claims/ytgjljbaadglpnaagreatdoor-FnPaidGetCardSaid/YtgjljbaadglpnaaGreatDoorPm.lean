/- Plain mathematics of numbers in bytes (seven bits each, the lowest first): nothing of the program. -/
import Derived.Test.YtgjljbaadglpnaaGreatDoorPl
namespace Go.Proofs.YtgjljbaadglpnaaGreatDoor.Pl
open Go Go.RowKit Go.Proofs.YtgjljbaadglpnaaGreatDoorW.PrintWords Go.Proofs.YtgjljbaadglpnaaGreatDoorW.PrintMore Go.Proofs.YtgjljbaadglpnaaGreatDoorW.PrintLast
set_option linter.unusedVariables false
def vb (n : Nat) : List Int := if h : n < 128 then [(n : Int)] else ((n % 128 + 128 : Nat) : Int) :: vb (n / 128)
termination_by n
decreasing_by omega
end Go.Proofs.YtgjljbaadglpnaaGreatDoor.Pl
