-- Written by wip/tools/myprint.py of this session over the kit's print; Lean checks it.
import Derived.Test.YtnkfdobcmfdhfaaDoorOpen
import Derived.Test.YtnkfdobcmfdhfaaDoorPx20
namespace Go.Proofs.YtnkfdobcmfdhfaaDoor.P
open Go.RowKit Go.Proofs.YtnkfdobcmfdhfaaDoorW.PrintWords Go.Proofs.YtnkfdobcmfdhfaaDoorW.PrintLast
/-- What is left to prove of the law. -/
def mummerlaw03_SpansShifts.Goal : Prop := ∀ (l0 : (List S24)) (a1_0 : Int) (a1_1 : Int) (a1_2 : Int), (l0.length ≤ 9223372036854775807 ∧ ∀ z ∈ l0, W24 z) → ((-9223372036854775808) ≤ a1_0 ∧ a1_0 ≤ 9223372036854775807) → ((-9223372036854775808) ≤ a1_1 ∧ a1_1 ≤ 9223372036854775807) → ((-9223372036854775808) ≤ a1_2 ∧ a1_2 ≤ 9223372036854775807) → ∃ k, mummerlaw03_SpansShifts.f k l0 a1_0 a1_1 a1_2 = some true
end Go.Proofs.YtnkfdobcmfdhfaaDoor.P
