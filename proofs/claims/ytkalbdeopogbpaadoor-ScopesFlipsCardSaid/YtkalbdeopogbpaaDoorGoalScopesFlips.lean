-- Written by wip/tools/myprint.py of this session over the kit's print; Lean checks it.
import Derived.Test.YtkalbdeopogbpaaDoorOpen
import Derived.Test.YtkalbdeopogbpaaDoorPx22
namespace Go.Proofs.YtkalbdeopogbpaaDoor.P
open Go.RowKit Go.Proofs.YtkalbdeopogbpaaDoorW.PrintWords Go.Proofs.YtkalbdeopogbpaaDoorW.PrintLast
/-- What is left to prove of the law. -/
def mummerlaw09_ScopesFlips.Goal : Prop := ∀ (a0 : ByteArray) (a1 : Int) (a2 : Int), (a0.size ≤ 140737488351232) → ((-9223372036854775808) ≤ a1 ∧ a1 ≤ 9223372036854775807) → ((-9223372036854775808) ≤ a2 ∧ a2 ≤ 9223372036854775807) → ∃ k, mummerlaw09_ScopesFlips.f k a0 a1 a2 = some true
end Go.Proofs.YtkalbdeopogbpaaDoor.P
