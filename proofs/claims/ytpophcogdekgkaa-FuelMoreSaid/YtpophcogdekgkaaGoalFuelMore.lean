-- Written by wip/tools/myprint.py of this session over the kit's print; Lean checks it.
import Derived.Test.YtpophcogdekgkaaOpen
import Derived.Test.YtpophcogdekgkaaPx24
namespace Go.Proofs.Ytpophcogdekgkaa.P
open Go.RowKit Go.Proofs.YtpophcogdekgkaaW.PrintWords Go.Proofs.YtpophcogdekgkaaW.PrintLast
/-- What is left to prove of the law. -/
def mummerlaw16_FuelMore.Goal : Prop := ∀ (l0 : (List S46)) (a1 : Int) (a2 : Int), (l0.length ≤ 9223372036854775807 ∧ ∀ z ∈ l0, W46 z) → ((-9223372036854775808) ≤ a1 ∧ a1 ≤ 9223372036854775807) → ((-9223372036854775808) ≤ a2 ∧ a2 ≤ 9223372036854775807) → ∃ k, mummerlaw16_FuelMore.f k l0 a1 a2 = some true
end Go.Proofs.Ytpophcogdekgkaa.P
