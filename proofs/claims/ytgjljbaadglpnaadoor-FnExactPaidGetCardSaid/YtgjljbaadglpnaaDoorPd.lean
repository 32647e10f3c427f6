/- Plain lemmas for what is drawn: numbers below others, xor. Nothing of the program. -/
import Derived.Test.YtgjljbaadglpnaaDoorPs
namespace Go.Proofs.YtgjljbaadglpnaaDoor.Pl
open Go Go.RowKit Go.Proofs.YtgjljbaadglpnaaDoorW.PrintWords Go.Proofs.YtgjljbaadglpnaaDoorW.PrintMore Go.Proofs.YtgjljbaadglpnaaDoorW.PrintLast
set_option linter.unusedVariables false

end Go.Proofs.YtgjljbaadglpnaaDoor.Pl
