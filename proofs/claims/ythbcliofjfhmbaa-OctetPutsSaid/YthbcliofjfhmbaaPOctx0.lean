-- Printed by a program of this session (wip/pg.py, over the kit's print): functions, their Lean twins, and the proofs that the calls come to them.
import Derived.Test.YthbcliofjfhmbaaProg
import Derived.Below
import Derived.Deep.Draws
import Derived.Deep.AppendLies
import Derived.Maps.AppendAt
import Derived.OwnWalk
import Derived.Laws.BytesArg
import Derived.Laws.MakeOwn
import Derived.Laws.OwnMore
import Derived.Deep.OwnRows
import Derived.Tactics
import Derived.Lib.ConvBytes
import Derived.Laws.Slices
import Derived.WalkKit
import Derived.KernelRfl
import Derived.RowKit3
import Derived.Deep.LoopGhost
import Derived.Deep.QuietTactic
import Derived.BigQuiet
import Derived.WideLaws
import Derived.Deep.DeepCutAuto
import Derived.Deep.CutBlock
import Derived.Deep.RegionHeld3
import Derived.Laws.Rows
import Derived.Lib.AppendStr
import Derived.ArgAppend
import Derived.Laws.IdiomCopy
import Derived.OrdersHeld
import Derived.Laws.BitsLemmas
import Derived.RowKit
import Derived.Test.YthbcliofjfhmbaaGivOct
import Derived.Test.YthbcliofjfhmbaaWWords
import Derived.Test.YthbcliofjfhmbaaWLast
import Derived.Test.YthbcliofjfhmbaaWTab
import Derived.Test.YthbcliofjfhmbaaWFour
import Derived.Test.YthbcliofjfhmbaaWQPut
import Derived.Test.YthbcliofjfhmbaaWApart
import Derived.Test.YthbcliofjfhmbaaWArr
import Derived.Test.YthbcliofjfhmbaaWZeros
import Derived.Test.YthbcliofjfhmbaaWFoot
import Derived.Test.YthbcliofjfhmbaaWKept
import Derived.Test.YthbcliofjfhmbaaWShare
import Derived.Test.YthbcliofjfhmbaaWN
import Derived.Test.YthbcliofjfhmbaaWFootNe
import Derived.Test.YthbcliofjfhmbaaWAt
import Derived.Test.YthbcliofjfhmbaaWEqStruct
import Derived.Test.YthbcliofjfhmbaaWRepsOne
import Derived.Test.YthbcliofjfhmbaaWInv
import Derived.Test.YthbcliofjfhmbaaWInvWords
import Derived.Test.YthbcliofjfhmbaaWGuard
import Derived.Test.YthbcliofjfhmbaaWNEv
import Derived.Test.YthbcliofjfhmbaaWMore
namespace Go.Proofs.Ythbcliofjfhmbaa.POct
open Go.Proofs.Ythbcliofjfhmbaa.Given
open Go.RowKit Go.Proofs.YthbcliofjfhmbaaW.PrintWords Go.Proofs.YthbcliofjfhmbaaW.PrintLast Go.Proofs.YthbcliofjfhmbaaW.PrintMore
attribute [local go_sem] max2_int min2_int max_two min_two max_three min_three max_four min_four   -- for this text's walks alone
set_option linter.unusedVariables false
set_option linter.unusedSimpArgs false



def errW : Option Int → Value
  | none => .nilIface
  | some c => .iface 0 (.int .i64 c)
theorem errW_none : errW none = .nilIface := rfl
theorem errW_some (c : Int) : errW (some c) = .iface 0 (.int .i64 c) := rfl

theorem info5 : (Try.prog.info? 5).map (fun i => (i.zero, i.size, i.bytes)) = some (some (.int .u8 0), 1, 1) := by kernel_rfl
-- the values' own types

end Go.Proofs.Ythbcliofjfhmbaa.POct
