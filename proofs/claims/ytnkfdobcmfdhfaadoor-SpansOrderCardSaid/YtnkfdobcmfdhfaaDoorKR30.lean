import Derived.Test.YtnkfdobcmfdhfaaDoorKR25
import Derived.Test.YtnkfdobcmfdhfaaDoorKR31
namespace Go.Proofs.YtnkfdobcmfdhfaaDoor.P
open Go.RowKit Go.Proofs.YtnkfdobcmfdhfaaDoorW.PrintWords Go.Proofs.YtnkfdobcmfdhfaaDoorW.PrintLast
/-- What is left to prove of the law. -/
def mummerlaw03_SpansOrder.Goal : Prop := ∀ (a0_0 : Int) (a0_1 : Int) (a0_2 : Int) (a0_3 : Int) (a0_4 : Int) (a0_5 : Int), ((-9223372036854775808) ≤ a0_0 ∧ a0_0 ≤ 9223372036854775807) → ((-9223372036854775808) ≤ a0_1 ∧ a0_1 ≤ 9223372036854775807) → ((-9223372036854775808) ≤ a0_2 ∧ a0_2 ≤ 9223372036854775807) → ((-9223372036854775808) ≤ a0_3 ∧ a0_3 ≤ 9223372036854775807) → ((-9223372036854775808) ≤ a0_4 ∧ a0_4 ≤ 9223372036854775807) → ((-9223372036854775808) ≤ a0_5 ∧ a0_5 ≤ 9223372036854775807) → ∃ k, mummerlaw03_SpansOrder.f k a0_0 a0_1 a0_2 a0_3 a0_4 a0_5 = some true
end Go.Proofs.YtnkfdobcmfdhfaaDoor.P
