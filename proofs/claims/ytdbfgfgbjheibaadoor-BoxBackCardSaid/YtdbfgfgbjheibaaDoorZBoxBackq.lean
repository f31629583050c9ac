/- Short names for lemmas that the printed walks name often. -/
import Derived.ArgAppend
import Derived.Below
import Derived.BigQuiet
import Derived.ChangeOld
import Derived.Deep.AppendLies
import Derived.Deep.CutBlock
import Derived.Deep.DeepCutAuto
import Derived.Deep.DeepHandedRow
import Derived.Deep.Draws
import Derived.Deep.LoopGhost
import Derived.Deep.OwnRows
import Derived.Deep.QuietTactic
import Derived.Deep.RegionHeld3
import Derived.Deep.RegionWith
import Derived.Defers
import Derived.IntWalk
import Derived.KernelRfl
import Derived.LaidLaws
import Derived.LaidMore
import Derived.Laws.BitsAllLaws
import Derived.Laws.BitsLemmas
import Derived.Laws.BytesArg
import Derived.Laws.CopyOwn
import Derived.Laws.IdiomCopy
import Derived.Laws.MakeOwn
import Derived.Laws.OwnMore
import Derived.Laws.Rows
import Derived.Laws.Slices
import Derived.Laws.StructEq
import Derived.Lib.AppendStr
import Derived.Lib.BufferMore
import Derived.Lib.ConvBytes
import Derived.Lib.LaidTab
import Derived.Lib.SlBytesConst
import Derived.Maps.AppendAt
import Derived.OpenShut
import Derived.OrdersHeld
import Derived.OwnWalk
import Derived.ProofKit
import Derived.Recover
import Derived.RowKit
import Derived.RowKit3
import Derived.ShutString
import Derived.SizedLaws
import Derived.Tactics
import Derived.Test.YtdbfgfgbjheibaaDoorCards
import Derived.Test.YtdbfgfgbjheibaaDoorProg
import Derived.Test.YtdbfgfgbjheibaaDoorRows
import Derived.Test.YtdbfgfgbjheibaaDoorTie
import Derived.WalkKit
import Derived.WideLaws
import Derived.Test.YtdbfgfgbjheibaaDoorZBoxBackaa
import Derived.Test.YtdbfgfgbjheibaaDoorZBoxBackab
namespace Go.Proofs.YtdbfgfgbjheibaaDoor
open Go Go.RowKit Go.Proofs.YtdbfgfgbjheibaaDoorW.PrintLast Go.Proofs.YtdbfgfgbjheibaaDoorW.PrintMore Go.Proofs.YtdbfgfgbjheibaaDoorW.PrintWords
abbrev zA := @Aside0.mk
abbrev zN := @pw_below_drewN
abbrev zB := @below_alloc
abbrev zL := @World.block_lt_of_cell?
abbrev zF := @blk_frozen
abbrev zC := @blk_cell
abbrev zR := @Kd.R_alloc
abbrev zS := @Kd.R_drewN
abbrev zT := @Kd.R_drew
abbrev zE := @below_set
abbrev zO := @of_decide_eq_true
abbrev zD := @Kd.C_below
abbrev zY := @List.setIfInBounds_toArray
abbrev zP := @Option.bind_some
abbrev zG := @blk_drewN
abbrev zH := @blk_drew
abbrev zQ := @blk_below
abbrev zX := @Below.refl
abbrev zJ := @Option.some.inj
abbrev zm := @List.map_toArray
abbrev zc := @List.map_cons
abbrev zn := @List.map_nil
abbrev zd := @List.length_drop
abbrev zt := @List.length_take
abbrev z2 := @List.set_cons_succ
abbrev z3 := @Drawn0.step
abbrev z4 := @Drawn0.refl
abbrev z5 := @Nat.le_refl
end Go.Proofs.YtdbfgfgbjheibaaDoor
