-- Written by wip/tools/myprint.py of this session over the kit's print; Lean checks it.
import Derived.Test.YtkalbdeopogbpaaDoorOpen
import Derived.Test.YtkalbdeopogbpaaDoorPx12
namespace Go.Proofs.YtkalbdeopogbpaaDoor.P
open Go.RowKit Go.Proofs.YtkalbdeopogbpaaDoorW.PrintWords Go.Proofs.YtkalbdeopogbpaaDoorW.PrintLast
/-- What is left to prove of the law. -/
def mummerlaw09_ScopesChecks.Goal : Prop := ∀ (a0 : ByteArray) (l1 : (List Int)), (a0.size ≤ 140737488351232) → (l1.length ≤ 9223372036854775807 ∧ ∀ z ∈ l1, ((-9223372036854775808) ≤ z ∧ z ≤ 9223372036854775807)) → ∃ k, mummerlaw09_ScopesChecks.f k a0 l1 = some true
end Go.Proofs.YtkalbdeopogbpaaDoor.P
