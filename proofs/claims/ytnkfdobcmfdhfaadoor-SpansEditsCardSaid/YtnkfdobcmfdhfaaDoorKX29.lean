import Derived.Test.YtnkfdobcmfdhfaaDoorKX25
import Derived.Test.YtnkfdobcmfdhfaaDoorKX30
namespace Go.Proofs.YtnkfdobcmfdhfaaDoor.P
open Go.RowKit Go.Proofs.YtnkfdobcmfdhfaaDoorW.PrintWords Go.Proofs.YtnkfdobcmfdhfaaDoorW.PrintLast
/-- What is left to prove of the law. -/
def mummerlaw03_SpansEdits.Goal : Prop := ∀ (l0 : (List Int)) (a1 : ByteArray) (a2_0 : Int) (a2_1 : Int) (a2_2 : Int) (a2_3 : Int), (l0.length ≤ 9223372036854775807 ∧ ∀ z ∈ l0, (0 ≤ z ∧ z ≤ 255)) → (a1.size ≤ 140737488351232) → ((-9223372036854775808) ≤ a2_0 ∧ a2_0 ≤ 9223372036854775807) → ((-9223372036854775808) ≤ a2_1 ∧ a2_1 ≤ 9223372036854775807) → ((-9223372036854775808) ≤ a2_2 ∧ a2_2 ≤ 9223372036854775807) → ((-9223372036854775808) ≤ a2_3 ∧ a2_3 ≤ 9223372036854775807) → ∃ k, mummerlaw03_SpansEdits.f k l0 a1 a2_0 a2_1 a2_2 a2_3 = some true
end Go.Proofs.YtnkfdobcmfdhfaaDoor.P
