/- Functions of the program, what each answers, and that the program does so: made by a program of this session (wip/drive.py) out of the print, with contracts proved by hand put in. Conditions: those that each theorem tells. -/
import Derived.Test.YtgjljbaadglpnaaDoorProg
import Derived.Below
import Derived.Deep.Draws
import Derived.Deep.AppendLies
import Derived.Maps.AppendAt
import Derived.OwnWalk
import Derived.Laws.BytesArg
import Derived.Laws.MakeOwn
import Derived.Laws.OwnMore
import Derived.Deep.OwnRows
import Derived.Tactics
import Derived.Lib.ConvBytes
import Derived.Laws.Slices
import Derived.WalkKit
import Derived.KernelRfl
import Derived.RowKit3
import Derived.Deep.LoopGhost
import Derived.Deep.QuietTactic
import Derived.BigQuiet
import Derived.WideLaws
import Derived.Deep.DeepCutAuto
import Derived.Deep.CutBlock
import Derived.Deep.RegionHeld3
import Derived.Laws.Rows
import Derived.Lib.AppendStr
import Derived.ArgAppend
import Derived.Laws.IdiomCopy
import Derived.OrdersHeld
import Derived.Laws.BitsLemmas
import Derived.RowKit
import Derived.Test.YtgjljbaadglpnaaDoorSh
import Derived.Test.YtgjljbaadglpnaaDoorWWords
import Derived.Test.YtgjljbaadglpnaaDoorWLast
import Derived.Test.YtgjljbaadglpnaaDoorWTab
import Derived.Test.YtgjljbaadglpnaaDoorWFour
import Derived.Test.YtgjljbaadglpnaaDoorWQPut
import Derived.Test.YtgjljbaadglpnaaDoorWApart
import Derived.Test.YtgjljbaadglpnaaDoorWArr
import Derived.Test.YtgjljbaadglpnaaDoorWZeros
import Derived.Test.YtgjljbaadglpnaaDoorWFoot
import Derived.Test.YtgjljbaadglpnaaDoorWKept
import Derived.Test.YtgjljbaadglpnaaDoorWShare
import Derived.Test.YtgjljbaadglpnaaDoorWN
import Derived.Test.YtgjljbaadglpnaaDoorWFootNe
import Derived.Test.YtgjljbaadglpnaaDoorWAt
import Derived.Test.YtgjljbaadglpnaaDoorWEqStruct
import Derived.Test.YtgjljbaadglpnaaDoorWRepsOne
import Derived.Test.YtgjljbaadglpnaaDoorWInv
import Derived.Test.YtgjljbaadglpnaaDoorWInvWords
import Derived.Test.YtgjljbaadglpnaaDoorWGuard
import Derived.Test.YtgjljbaadglpnaaDoorWNEv
import Derived.Test.YtgjljbaadglpnaaDoorWMore
namespace Go.Proofs.YtgjljbaadglpnaaDoor.PFnExactHeadPut
open Go.RowKit Go.Proofs.YtgjljbaadglpnaaDoorW.PrintWords Go.Proofs.YtgjljbaadglpnaaDoorW.PrintLast Go.Proofs.YtgjljbaadglpnaaDoorW.PrintMore
attribute [local go_sem] max2_int min2_int max_two min_two max_three min_three max_four min_four   -- for this text's walks alone
set_option linter.unusedVariables false
set_option linter.unusedSimpArgs false



def errW : Option Int → Value
  | none => .nilIface
  | some c => .iface 0 (.int .i64 c)
theorem errW_none : errW none = .nilIface := rfl
theorem errW_some (c : Int) : errW (some c) = .iface 0 (.int .i64 c) := rfl

theorem info5 : (Tryd.prog.info? 5).map (fun i => (i.zero, i.size, i.bytes)) = some (some (.int .u8 0), 1, 1) := by kernel_rfl
-- the values' own types

end Go.Proofs.YtgjljbaadglpnaaDoor.PFnExactHeadPut
