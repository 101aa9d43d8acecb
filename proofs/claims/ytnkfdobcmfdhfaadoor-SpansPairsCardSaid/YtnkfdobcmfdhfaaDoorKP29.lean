import Derived.Test.YtnkfdobcmfdhfaaDoorKP25
import Derived.Test.YtnkfdobcmfdhfaaDoorKP30
namespace Go.Proofs.YtnkfdobcmfdhfaaDoor.P
open Go.RowKit Go.Proofs.YtnkfdobcmfdhfaaDoorW.PrintWords Go.Proofs.YtnkfdobcmfdhfaaDoorW.PrintLast
/-- What is left to prove of the law. -/
def mummerlaw03_SpansPairs.Goal : Prop := ∀ (l0 : (List S24)) (a1 : Int), (l0.length ≤ 9223372036854775807 ∧ ∀ z ∈ l0, W24 z) → ((-9223372036854775808) ≤ a1 ∧ a1 ≤ 9223372036854775807) → ∃ k, mummerlaw03_SpansPairs.f k l0 a1 = some true
end Go.Proofs.YtnkfdobcmfdhfaaDoor.P
