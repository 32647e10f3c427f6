/- Plain mathematics of sums: sixteen figures of base 16, and the number of the first eight. Nothing of the program. -/
import Derived.Test.YtgjljbaadglpnaaDoorPm
namespace Go.Proofs.YtgjljbaadglpnaaDoor.Pl
open Go Go.RowKit Go.Proofs.YtgjljbaadglpnaaDoorW.PrintWords Go.Proofs.YtgjljbaadglpnaaDoorW.PrintMore Go.Proofs.YtgjljbaadglpnaaDoorW.PrintLast
set_option linter.unusedVariables false

/-- A figure of base 16, small letters. -/
def hexd (b : Int) : Bool := decide (48 ≤ b ∧ b ≤ 57) || decide (97 ≤ b ∧ b ≤ 102)
theorem hexd_iff (b : Int) : hexd b = true ↔ (48 ≤ b ∧ b ≤ 57) ∨ (97 ≤ b ∧ b ≤ 102) := by unfold hexd; rw [Bool.or_eq_true, decide_eq_true_iff, decide_eq_true_iff]
/-- Sixteen figures of base 16. -/
def sumB (l : List Int) : Bool := l.all hexd && decide (l.length = 16)
theorem sumB_iff (l : List Int) : sumB l = true ↔ (∀ x ∈ l, hexd x = true) ∧ l.length = 16 := by unfold sumB; rw [Bool.and_eq_true, decide_eq_true_iff, List.all_eq_true]
/-- A figure's number. -/
def hx (b : Int) : Int := if b ≥ 97 then b - 87 else b - 48
/-- The number of figures, n ahead. -/
def hgo : List Int → Int → Int
  | [], n => n
  | b :: r, n => hgo r (16 * n + hx b)
/-- The number of a sum's first 31 bits. -/
def head31 (l : List Int) : Int := hgo (l.take 8) 0 / 2
/-- What SumHead answers. -/
def shead (l : List Int) : Int := if sumB l = true then head31 l else -1
end Go.Proofs.YtgjljbaadglpnaaDoor.Pl
