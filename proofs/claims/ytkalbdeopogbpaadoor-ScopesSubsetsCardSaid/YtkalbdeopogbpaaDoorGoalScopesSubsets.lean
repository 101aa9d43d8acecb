-- Written by wip/tools/myprint.py of this session over the kit's print; Lean checks it.
import Derived.Test.YtkalbdeopogbpaaDoorOpen
import Derived.Test.YtkalbdeopogbpaaDoorPx32
namespace Go.Proofs.YtkalbdeopogbpaaDoor.P
open Go.RowKit Go.Proofs.YtkalbdeopogbpaaDoorW.PrintWords Go.Proofs.YtkalbdeopogbpaaDoorW.PrintLast
/-- What is left to prove of the law. -/
def mummerlaw09_ScopesSubsets.Goal : Prop := ∀ (a0 : ByteArray) (a1 : ByteArray) (a2 : ByteArray), (a0.size ≤ 140737488351232) → (a1.size ≤ 140737488351232) → (a2.size ≤ 140737488351232) → ∃ k, mummerlaw09_ScopesSubsets.f k a0 a1 a2 = some true
end Go.Proofs.YtkalbdeopogbpaaDoor.P
