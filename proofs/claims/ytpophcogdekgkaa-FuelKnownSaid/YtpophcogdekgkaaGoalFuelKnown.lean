-- Written by wip/tools/myprint.py of this session over the kit's print; Lean checks it.
import Derived.Test.YtpophcogdekgkaaOpen
import Derived.Test.YtpophcogdekgkaaPx29
namespace Go.Proofs.Ytpophcogdekgkaa.P
open Go.RowKit Go.Proofs.YtpophcogdekgkaaW.PrintWords Go.Proofs.YtpophcogdekgkaaW.PrintLast
/-- What is left to prove of the law. -/
def mummerlaw16_FuelKnown.Goal : Prop := ∃ k, mummerlaw16_FuelKnown.f k  = some true
end Go.Proofs.Ytpophcogdekgkaa.P
