/- Printed by a program of this session (wip/pg.py, over the print of the kit): functions, their Lean twins, and the proofs that the calls come to them; each under the conditions that it names. -/
import Derived.Test.YtkkikddocgckbaaProg
import Derived.Below
import Derived.Deep.Draws
import Derived.Deep.AppendLies
import Derived.Maps.AppendAt
import Derived.OwnWalk
import Derived.Laws.BytesArg
import Derived.Laws.MakeOwn
import Derived.Laws.OwnMore
import Derived.Deep.OwnRows
import Derived.Tactics
import Derived.Lib.ConvBytes
import Derived.Laws.Slices
import Derived.WalkKit
import Derived.KernelRfl
import Derived.RowKit3
import Derived.Deep.LoopGhost
import Derived.Deep.QuietTactic
import Derived.BigQuiet
import Derived.WideLaws
import Derived.Deep.DeepCutAuto
import Derived.Deep.CutBlock
import Derived.Deep.RegionHeld3
import Derived.Laws.Rows
import Derived.Lib.AppendStr
import Derived.ArgAppend
import Derived.Laws.IdiomCopy
import Derived.OrdersHeld
import Derived.Laws.BitsLemmas
import Derived.RowKit
import Derived.Test.YtkkikddocgckbaaWWords
import Derived.Test.YtkkikddocgckbaaWLast
import Derived.Test.YtkkikddocgckbaaWTab
import Derived.Test.YtkkikddocgckbaaWFour
import Derived.Test.YtkkikddocgckbaaWQPut
import Derived.Test.YtkkikddocgckbaaWApart
import Derived.Test.YtkkikddocgckbaaWArr
import Derived.Test.YtkkikddocgckbaaWZeros
import Derived.Test.YtkkikddocgckbaaWFoot
import Derived.Test.YtkkikddocgckbaaWKept
import Derived.Test.YtkkikddocgckbaaWShare
import Derived.Test.YtkkikddocgckbaaWN
import Derived.Test.YtkkikddocgckbaaWFootNe
import Derived.Test.YtkkikddocgckbaaWAt
import Derived.Test.YtkkikddocgckbaaWEqStruct
import Derived.Test.YtkkikddocgckbaaWRepsOne
import Derived.Test.YtkkikddocgckbaaWInv
import Derived.Test.YtkkikddocgckbaaWInvWords
import Derived.Test.YtkkikddocgckbaaWGuard
import Derived.Test.YtkkikddocgckbaaWNEv
import Derived.Test.YtkkikddocgckbaaWMore
namespace Go.Proofs.Ytkkikddocgckbaa.PLet

open Go.RowKit Go.Proofs.YtkkikddocgckbaaW.PrintWords Go.Proofs.YtkkikddocgckbaaW.PrintLast Go.Proofs.YtkkikddocgckbaaW.PrintMore
attribute [local go_sem] max2_int min2_int max_two min_two max_three min_three max_four min_four   -- for this text's walks alone
set_option linter.unusedVariables false
set_option linter.unusedSimpArgs false



def errW : Option Int → Value
  | none => .nilIface
  | some c => .iface 0 (.int .i64 c)
theorem errW_none : errW none = .nilIface := rfl
theorem errW_some (c : Int) : errW (some c) = .iface 0 (.int .i64 c) := rfl

-- the values' own types

end Go.Proofs.Ytkkikddocgckbaa.PLet
