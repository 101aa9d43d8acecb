import Derived.Test.YtdjkdlbokepoaaaGreatDoorKC35
import Derived.Test.YtdjkdlbokepoaaaGreatDoorKC40
namespace Go.Proofs.YtdjkdlbokepoaaaGreatDoor.P
open Go.RowKit Go.Proofs.YtdjkdlbokepoaaaGreatDoorW.PrintWords Go.Proofs.YtdjkdlbokepoaaaGreatDoorW.PrintLast
/-- What is left to prove of the law. -/
def mummerlaw08_FaultsChecks.Goal : Prop := ∀ (a0 : Int) (l1 : (List S41)), ((-9223372036854775808) ≤ a0 ∧ a0 ≤ 9223372036854775807) → (l1.length ≤ 9223372036854775807 ∧ ∀ z ∈ l1, W41 z) → ∃ k, mummerlaw08_FaultsChecks.f k a0 l1 = some true
end Go.Proofs.YtdjkdlbokepoaaaGreatDoor.P
