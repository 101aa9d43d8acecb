-- Written by wip/tools/myprint.py of this session over the kit's print; Lean checks it.
import Derived.Test.YtpophcogdekgkaaOpen
import Derived.Test.YtpophcogdekgkaaPx25
namespace Go.Proofs.Ytpophcogdekgkaa.P
open Go.RowKit Go.Proofs.YtpophcogdekgkaaW.PrintWords Go.Proofs.YtpophcogdekgkaaW.PrintLast
/-- What is left to prove of the law. -/
def mummerlaw16_FuelLeast.Goal : Prop := ∀ (l0 : (List S46)), (l0.length ≤ 9223372036854775807 ∧ ∀ z ∈ l0, W46 z) → ∃ k, mummerlaw16_FuelLeast.f k l0 = some true
end Go.Proofs.Ytpophcogdekgkaa.P
