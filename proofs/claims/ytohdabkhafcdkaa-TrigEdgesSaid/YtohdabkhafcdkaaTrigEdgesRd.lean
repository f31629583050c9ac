/- Slices of truths as data are lists of truths; no conditions. -/
import Derived.Test.YtohdabkhafcdkaaBridge
import Derived.Test.YtohdabkhafcdkaaProg
namespace Go.Proofs.Ytohdabkhafcdkaa
open Go Go.RowKit Go.Proofs.YtohdabkhafcdkaaW.PrintWords
theorem rd_bools : Bridge.Rdga Try.prog 29 (Kd.slice 4 Kd.bool) (fun l => ∀ a ∈ l, True) := Bridge.Rdg.slicea Try.underlying29 (by kernel_rfl) (Bridge.Rdg.bool Try.underlying4 (by kernel_rfl))
end Go.Proofs.Ytohdabkhafcdkaa
