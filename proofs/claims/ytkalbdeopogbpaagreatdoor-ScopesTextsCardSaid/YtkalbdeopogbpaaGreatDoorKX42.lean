import Derived.Test.YtkalbdeopogbpaaGreatDoorKX37
import Derived.Test.YtkalbdeopogbpaaGreatDoorKX41
namespace Go.Proofs.YtkalbdeopogbpaaGreatDoor.P
open Go.RowKit Go.Proofs.YtkalbdeopogbpaaGreatDoorW.PrintWords Go.Proofs.YtkalbdeopogbpaaGreatDoorW.PrintLast
/-- What is left to prove of the law. -/
def mummerlaw09_ScopesTexts.Goal : Prop := ∀ (a0 : ByteArray) (a1 : ByteArray), (a0.size ≤ 140737488351232) → (a1.size ≤ 140737488351232) → ∃ k, mummerlaw09_ScopesTexts.f k a0 a1 = some true
end Go.Proofs.YtkalbdeopogbpaaGreatDoor.P
