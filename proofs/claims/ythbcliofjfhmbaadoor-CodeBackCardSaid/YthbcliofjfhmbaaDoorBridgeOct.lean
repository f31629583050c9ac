/- Slices of octets as data are lists of octets; no conditions. -/
import Derived.Test.YthbcliofjfhmbaaDoorBridge
import Derived.Test.YthbcliofjfhmbaaDoorProg
namespace Go.Proofs.YthbcliofjfhmbaaDoor
open Go.Proofs.YthbcliofjfhmbaaDoorW.PrintWords
open Go.RowKit
theorem rd_octets : Bridge.Rdga Tryd.prog 22 (Kd.slice 5 (Kd.int .u8)) (fun l => ∀ a ∈ l, (Lit.int .u8 a).wf = true) := Bridge.Rdg.slicea Tryd.underlying22 (by kernel_rfl) (Bridge.Rdg.int Tryd.underlying5 (by kernel_rfl))
end Go.Proofs.YthbcliofjfhmbaaDoor
