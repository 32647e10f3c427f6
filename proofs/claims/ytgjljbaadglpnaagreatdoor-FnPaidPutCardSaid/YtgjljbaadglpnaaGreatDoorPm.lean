/- Plain mathematics of numbers in bytes (seven bits each, the lowest first): nothing of the program. -/
import Derived.Test.YtgjljbaadglpnaaGreatDoorPl
namespace Go.Proofs.YtgjljbaadglpnaaGreatDoor.Pl
open Go Go.RowKit Go.Proofs.YtgjljbaadglpnaaGreatDoorW.PrintWords Go.Proofs.YtgjljbaadglpnaaGreatDoorW.PrintMore Go.Proofs.YtgjljbaadglpnaaGreatDoorW.PrintLast
set_option linter.unusedVariables false

/-- The bytes of a number, seven bits each, the lowest first, 128 more in all but the last. -/
def vb (n : Nat) : List Int := if h : n < 128 then [(n : Int)] else ((n % 128 + 128 : Nat) : Int) :: vb (n / 128)
termination_by n
decreasing_by omega
/-- What bytes tell: their low seven bits, the lowest first. -/
def bval : List Int → Int
  | [] => 0
  | b :: l => b % 128 + 128 * bval l
/-- What VarGet reads: from byte i on, n told so far. -/
def vgo : List Int → Nat → Int → Int × Int
  | [], _, _ => (0, 0)
  | b :: r, i, n => if i ≥ 5 then (0, 0) else
    if b < 128 then (if (i > 0 ∧ b = 0) ∨ n + b % 128 * 128 ^ i > 2147483647 then (0, 0) else (n + b % 128 * 128 ^ i, (i : Int) + 1))
    else vgo r (i + 1) (n + b % 128 * 128 ^ i)
end Go.Proofs.YtgjljbaadglpnaaGreatDoor.Pl
