import Derived.Test.YtnkfdobcmfdhfaaDoorKB25
import Derived.Test.YtnkfdobcmfdhfaaDoorKB30
namespace Go.Proofs.YtnkfdobcmfdhfaaDoor.P
open Go.RowKit Go.Proofs.YtnkfdobcmfdhfaaDoorW.PrintWords Go.Proofs.YtnkfdobcmfdhfaaDoorW.PrintLast
/-- What is left to prove of the law. -/
def mummerlaw03_SpansBack.Goal : Prop := ∀ (l0 : (List Int)) (a1 : Int) (a2 : Int), (l0.length ≤ 9223372036854775807 ∧ ∀ z ∈ l0, (0 ≤ z ∧ z ≤ 255)) → (0 ≤ a1 ∧ a1 ≤ 255) → (0 ≤ a2 ∧ a2 ≤ 255) → ∃ k, mummerlaw03_SpansBack.f k l0 a1 a2 = some true
end Go.Proofs.YtnkfdobcmfdhfaaDoor.P
