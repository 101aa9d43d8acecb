/- FuelKnown: the document's examples of fuel: the law answers true (it has no input). -/
import Derived.Test.YtpophcogdekgkaaGoalFuelKnown
import Derived.Test.YtpophcogdekgkaaLemA
namespace Go.Proofs.Ytpophcogdekgkaa.Pure
open Go.RowKit Go.Proofs.Ytpophcogdekgkaa.P Go.Proofs.Ytpophcogdekgkaa.L Go.Proofs.YtpophcogdekgkaaW.PrintWords Go.Proofs.YtpophcogdekgkaaW.PrintLast

set_option maxRecDepth 100000 in
theorem FuelKnown : mummerlaw16_FuelKnown.Goal := ⟨400, by decide +kernel⟩

end Go.Proofs.Ytpophcogdekgkaa.Pure
