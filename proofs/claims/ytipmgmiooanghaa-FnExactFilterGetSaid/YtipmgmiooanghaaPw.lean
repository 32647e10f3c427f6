/- Three small words of a walk, proved here anew, for a claim that would be too large with all words: nothing of the program. -/
import Derived.Test.YtipmgmiooanghaaWWords
import Derived.Test.YtipmgmiooanghaaWLast
import Derived.Test.YtipmgmiooanghaaWApart
namespace Go.Proofs.Ytipmgmiooanghaa.Thin
open Go Go.RowKit Go.Proofs.YtipmgmiooanghaaW.PrintWords
set_option linter.unusedVariables false
section
variable {P : Program} {ops : Array Oper} {rest : List Oper} {o : Oper} {a : Act} {Q : Exit → Act → World → Prop} {W : World}
/-- The operation is a call of a builtin. -/
theorem gate_builtin {b : Builtin} {xs : Array Operand} {ts : Array TypeId} (ho : o.op = .call { callee := .builtin b, args := xs, argTypes := ts }) (h : wpList P ops Q (o :: rest) a W) : wpList P ops Q (o :: rest) a W := h
/-- The operation is a call of f. -/
theorem gate_callee {f : FuncId} {as : Array Operand} {ts : Array TypeId} (ho : o.op = .call { callee := .value (.func f), args := as, argTypes := ts }) (h : wpList P ops Q (o :: rest) a W) : wpList P ops Q (o :: rest) a W := h
end
namespace Kd
open Go.Proofs.YtipmgmiooanghaaW.PrintWords.Kd
variable {α : Type} {d : Kd α} {e base N : Nat} {W w1 : World} {ok : Nat → Prop} {u v : Value} {xs : List α}
/-- A row that was there before, behind what leaves it alone. -/
theorem R_old (hu : d.R e W base ok u xs) (hb : Below W.heap.size W w1) : d.R e w1 base (fun k => ok k ∧ k < W.heap.size) u xs :=
  R_mono (R_below (R_bound hu) hb) (fun k hk => ⟨hk.1, hk.2.2.1⟩)
/-- It is not a row that came later. -/
theorem R_told (h : d.R e w1 base (fun k => ok k ∧ k < N) u xs) (hbase : ∀ k, v.ownBlock = some k → N ≤ k) : d.R e w1 base (fun k => (ok k ∧ some k ≠ v.ownBlock) ∧ k < N) u xs :=
  R_mono h (fun k hk => ⟨⟨hk.1, fun he => absurd hk.2 (Nat.not_lt.2 (hbase k he.symm))⟩, hk.2⟩)
end Kd
end Go.Proofs.Ytipmgmiooanghaa.Thin
