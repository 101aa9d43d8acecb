import Derived.Test.YtnkfdobcmfdhfaaDoorKL27
import Derived.Test.YtnkfdobcmfdhfaaDoorKL32
namespace Go.Proofs.YtnkfdobcmfdhfaaDoor.P
open Go.RowKit Go.Proofs.YtnkfdobcmfdhfaaDoorW.PrintWords Go.Proofs.YtnkfdobcmfdhfaaDoorW.PrintLast
/-- What is left to prove of the law. -/
def mummerlaw03_SpansPlaces.Goal : Prop := ∀ (l0 : (List Int)) (a1_0 : Int) (a1_1 : Int) (a2 : Int), (l0.length ≤ 9223372036854775807 ∧ ∀ z ∈ l0, (0 ≤ z ∧ z ≤ 255)) → ((-9223372036854775808) ≤ a1_0 ∧ a1_0 ≤ 9223372036854775807) → ((-9223372036854775808) ≤ a1_1 ∧ a1_1 ≤ 9223372036854775807) → ((-9223372036854775808) ≤ a2 ∧ a2 ≤ 9223372036854775807) → ∃ k, mummerlaw03_SpansPlaces.f k l0 a1_0 a1_1 a2 = some true
end Go.Proofs.YtnkfdobcmfdhfaaDoor.P
