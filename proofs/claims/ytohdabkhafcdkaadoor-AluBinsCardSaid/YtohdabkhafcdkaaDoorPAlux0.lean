/- Printed by a program of this session (wip/pg.py, over the print of the kit): functions, their Lean twins, and the proofs that the calls come to them; each under the conditions that it names. -/
import Derived.Test.YtohdabkhafcdkaaDoorProg
import Derived.Below
import Derived.Deep.Draws
import Derived.Deep.AppendLies
import Derived.Maps.AppendAt
import Derived.OwnWalk
import Derived.Laws.BytesArg
import Derived.Laws.MakeOwn
import Derived.Laws.OwnMore
import Derived.Deep.OwnRows
import Derived.Tactics
import Derived.Lib.ConvBytes
import Derived.Laws.Slices
import Derived.WalkKit
import Derived.KernelRfl
import Derived.RowKit3
import Derived.Deep.LoopGhost
import Derived.Deep.QuietTactic
import Derived.BigQuiet
import Derived.WideLaws
import Derived.Deep.DeepCutAuto
import Derived.Deep.CutBlock
import Derived.Deep.RegionHeld3
import Derived.Laws.Rows
import Derived.Lib.AppendStr
import Derived.ArgAppend
import Derived.Laws.IdiomCopy
import Derived.OrdersHeld
import Derived.Laws.BitsLemmas
import Derived.RowKit
import Derived.Test.YtohdabkhafcdkaaDoorGoes
import Derived.Test.YtohdabkhafcdkaaDoorWWords
import Derived.Test.YtohdabkhafcdkaaDoorWLast
import Derived.Test.YtohdabkhafcdkaaDoorWTab
import Derived.Test.YtohdabkhafcdkaaDoorWFour
import Derived.Test.YtohdabkhafcdkaaDoorWQPut
import Derived.Test.YtohdabkhafcdkaaDoorWApart
import Derived.Test.YtohdabkhafcdkaaDoorWArr
import Derived.Test.YtohdabkhafcdkaaDoorWZeros
import Derived.Test.YtohdabkhafcdkaaDoorWFoot
import Derived.Test.YtohdabkhafcdkaaDoorWKept
import Derived.Test.YtohdabkhafcdkaaDoorWShare
import Derived.Test.YtohdabkhafcdkaaDoorWN
import Derived.Test.YtohdabkhafcdkaaDoorWFootNe
import Derived.Test.YtohdabkhafcdkaaDoorWAt
import Derived.Test.YtohdabkhafcdkaaDoorWEqStruct
import Derived.Test.YtohdabkhafcdkaaDoorWRepsOne
import Derived.Test.YtohdabkhafcdkaaDoorWInv
import Derived.Test.YtohdabkhafcdkaaDoorWInvWords
import Derived.Test.YtohdabkhafcdkaaDoorWGuard
import Derived.Test.YtohdabkhafcdkaaDoorWNEv
import Derived.Test.YtohdabkhafcdkaaDoorWMore
namespace Go.Proofs.YtohdabkhafcdkaaDoor.PAlu
open Go.Proofs.YtohdabkhafcdkaaDoor.Given
open Go.RowKit Go.Proofs.YtohdabkhafcdkaaDoorW.PrintWords Go.Proofs.YtohdabkhafcdkaaDoorW.PrintLast Go.Proofs.YtohdabkhafcdkaaDoorW.PrintMore
attribute [local go_sem] max2_int min2_int max_two min_two max_three min_three max_four min_four   -- for this text's walks alone
set_option linter.unusedVariables false
set_option linter.unusedSimpArgs false



def errW : Option Int → Value
  | none => .nilIface
  | some c => .iface 0 (.int .i64 c)
theorem errW_none : errW none = .nilIface := rfl
theorem errW_some (c : Int) : errW (some c) = .iface 0 (.int .i64 c) := rfl

theorem info3 : (Tryd.prog.info? 3).map (fun i => (i.zero, i.size, i.bytes)) = some (some (.int .i64 0), 1, 8) := by kernel_rfl
-- the values' own types

end Go.Proofs.YtohdabkhafcdkaaDoor.PAlu
