/- Words of the walks: lines of the kit's print, those that this claim needs (wip/trim.py). -/
import Derived.Test.YtgjljbaadglpnaaDoorWWords
import Derived.Laws.StructEq
/-! ### 53. '==' of structs as_ one Bool -/
namespace Go.Proofs.YtgjljbaadglpnaaDoorW.PrintWords
open Go.RowKit
section
variable {P : Program} {d : Nat} {xs ys : Array Value} {f : Field} {fs : List Field} {a b : Value} {r s : Bool} {w : World}
end
end Go.Proofs.YtgjljbaadglpnaaDoorW.PrintWords
