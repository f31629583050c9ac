/- Slices of octets as data are lists of octets; no conditions. -/
import Derived.Test.YthbcliofjfhmbaaBridge
import Derived.Test.YthbcliofjfhmbaaProg
namespace Go.Proofs.Ythbcliofjfhmbaa
open Go.Proofs.YthbcliofjfhmbaaW.PrintWords
open Go.RowKit
theorem rd_octets : Bridge.Rdga Try.prog 22 (Kd.slice 5 (Kd.int .u8)) (fun l => ∀ a ∈ l, (Lit.int .u8 a).wf = true) := Bridge.Rdg.slicea Try.underlying22 (by kernel_rfl) (Bridge.Rdg.int Try.underlying5 (by kernel_rfl))
end Go.Proofs.Ythbcliofjfhmbaa
