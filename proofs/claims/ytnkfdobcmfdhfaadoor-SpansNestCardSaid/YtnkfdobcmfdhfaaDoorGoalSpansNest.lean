-- Written by wip/tools/myprint.py of this session over the kit's print; Lean checks it.
import Derived.Test.YtnkfdobcmfdhfaaDoorOpen
import Derived.Test.YtnkfdobcmfdhfaaDoorPx23
namespace Go.Proofs.YtnkfdobcmfdhfaaDoor.P
open Go.RowKit Go.Proofs.YtnkfdobcmfdhfaaDoorW.PrintWords Go.Proofs.YtnkfdobcmfdhfaaDoorW.PrintLast
/-- What is left to prove of the law. -/
def mummerlaw03_SpansNest.Goal : Prop := ∀ (l0 : (List S24)), (l0.length ≤ 9223372036854775807 ∧ ∀ z ∈ l0, W24 z) → ∃ k, mummerlaw03_SpansNest.f k l0 = some true
end Go.Proofs.YtnkfdobcmfdhfaaDoor.P
