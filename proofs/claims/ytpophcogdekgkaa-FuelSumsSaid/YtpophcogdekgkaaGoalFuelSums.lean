-- Written by wip/tools/myprint.py of this session over the kit's print; Lean checks it.
import Derived.Test.YtpophcogdekgkaaOpen
import Derived.Test.YtpophcogdekgkaaPx26
namespace Go.Proofs.Ytpophcogdekgkaa.P
open Go.RowKit Go.Proofs.YtpophcogdekgkaaW.PrintWords Go.Proofs.YtpophcogdekgkaaW.PrintLast
/-- What is left to prove of the law. -/
def mummerlaw16_FuelSums.Goal : Prop := ∀ (a0_0 : Int) (l0_1 : (List Int)) (a1 : Int) (a2 : Int), ((-9223372036854775808) ≤ a0_0 ∧ a0_0 ≤ 9223372036854775807) → (l0_1.length ≤ 9223372036854775807 ∧ ∀ z ∈ l0_1, ((-9223372036854775808) ≤ z ∧ z ≤ 9223372036854775807)) → ((-9223372036854775808) ≤ a1 ∧ a1 ≤ 9223372036854775807) → ((-9223372036854775808) ≤ a2 ∧ a2 ≤ 9223372036854775807) → ∃ k, mummerlaw16_FuelSums.f k a0_0 l0_1 a1 a2 = some true
end Go.Proofs.Ytpophcogdekgkaa.P
