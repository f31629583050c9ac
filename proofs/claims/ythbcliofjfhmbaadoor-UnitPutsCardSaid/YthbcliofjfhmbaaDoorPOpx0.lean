/- Printed by a program of this session (wip/pg.py, over the print of the kit): functions, their Lean twins, and the proofs that the calls come to them; each under the conditions that it names. -/
import Derived.Test.YthbcliofjfhmbaaDoorProg
import Derived.Below
import Derived.Deep.Draws
import Derived.Deep.AppendLies
import Derived.Maps.AppendAt
import Derived.OwnWalk
import Derived.Laws.BytesArg
import Derived.Laws.MakeOwn
import Derived.Laws.OwnMore
import Derived.Deep.OwnRows
import Derived.Tactics
import Derived.Lib.ConvBytes
import Derived.Laws.Slices
import Derived.WalkKit
import Derived.KernelRfl
import Derived.RowKit3
import Derived.Deep.LoopGhost
import Derived.Deep.QuietTactic
import Derived.BigQuiet
import Derived.WideLaws
import Derived.Deep.DeepCutAuto
import Derived.Deep.CutBlock
import Derived.Deep.RegionHeld3
import Derived.Laws.Rows
import Derived.Lib.AppendStr
import Derived.ArgAppend
import Derived.Laws.IdiomCopy
import Derived.OrdersHeld
import Derived.Laws.BitsLemmas
import Derived.RowKit
import Derived.Test.YthbcliofjfhmbaaDoorOpShape
import Derived.Test.YthbcliofjfhmbaaDoorWWords
import Derived.Test.YthbcliofjfhmbaaDoorWLast
import Derived.Test.YthbcliofjfhmbaaDoorWTab
import Derived.Test.YthbcliofjfhmbaaDoorWFour
import Derived.Test.YthbcliofjfhmbaaDoorWQPut
import Derived.Test.YthbcliofjfhmbaaDoorWApart
import Derived.Test.YthbcliofjfhmbaaDoorWArr
import Derived.Test.YthbcliofjfhmbaaDoorWZeros
import Derived.Test.YthbcliofjfhmbaaDoorWFoot
import Derived.Test.YthbcliofjfhmbaaDoorWKept
import Derived.Test.YthbcliofjfhmbaaDoorWShare
import Derived.Test.YthbcliofjfhmbaaDoorWN
import Derived.Test.YthbcliofjfhmbaaDoorWFootNe
import Derived.Test.YthbcliofjfhmbaaDoorWAt
import Derived.Test.YthbcliofjfhmbaaDoorWEqStruct
import Derived.Test.YthbcliofjfhmbaaDoorWRepsOne
import Derived.Test.YthbcliofjfhmbaaDoorWInv
import Derived.Test.YthbcliofjfhmbaaDoorWInvWords
import Derived.Test.YthbcliofjfhmbaaDoorWGuard
import Derived.Test.YthbcliofjfhmbaaDoorWNEv
import Derived.Test.YthbcliofjfhmbaaDoorWMore
namespace Go.Proofs.YthbcliofjfhmbaaDoor.POp
open Go.Proofs.YthbcliofjfhmbaaDoor.Given
open Go.RowKit Go.Proofs.YthbcliofjfhmbaaDoorW.PrintWords Go.Proofs.YthbcliofjfhmbaaDoorW.PrintLast Go.Proofs.YthbcliofjfhmbaaDoorW.PrintMore
attribute [local go_sem] max2_int min2_int max_two min_two max_three min_three max_four min_four   -- for this text's walks alone
set_option linter.unusedVariables false
set_option linter.unusedSimpArgs false



def errW : Option Int → Value
  | none => .nilIface
  | some c => .iface 0 (.int .i64 c)
theorem errW_none : errW none = .nilIface := rfl
theorem errW_some (c : Int) : errW (some c) = .iface 0 (.int .i64 c) := rfl

-- the values' own types

end Go.Proofs.YthbcliofjfhmbaaDoor.POp
