/- FnExactConstants: the program's constants have the values of the reference. Conditions: none beyond those that the statement tells. -/
import Derived.Test.YtgefbfahkfilnaaPFnExactConstantsx1
import Derived.Test.YtgefbfahkfilnaaPm
namespace Go.Proofs.Ytgefbfahkfilnaa.Pure
open Go Go.RowKit Go.Proofs.Ytgefbfahkfilnaa.PFnExactConstants Go.Proofs.YtgefbfahkfilnaaW.PrintWords Go.Proofs.YtgefbfahkfilnaaW.PrintLast Go.Proofs.YtgefbfahkfilnaaW.PrintMore Go.Proofs.Ytgefbfahkfilnaa.Pl
set_option linter.unusedVariables false

theorem FnExactConstants : laws_FnExactConstants.Pure := by
  unfold laws_FnExactConstants.Pure laws_FnExactConstants.f
  decide

end Go.Proofs.Ytgefbfahkfilnaa.Pure
