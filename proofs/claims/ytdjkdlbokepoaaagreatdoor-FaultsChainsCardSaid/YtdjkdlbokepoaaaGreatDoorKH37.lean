import Derived.Test.YtdjkdlbokepoaaaGreatDoorKH35
import Derived.Test.YtdjkdlbokepoaaaGreatDoorKH39
namespace Go.Proofs.YtdjkdlbokepoaaaGreatDoor.P
open Go.RowKit Go.Proofs.YtdjkdlbokepoaaaGreatDoorW.PrintWords Go.Proofs.YtdjkdlbokepoaaaGreatDoorW.PrintLast
/-- What is left to prove of the law. -/
def mummerlaw08_FaultsChains.Goal : Prop := ∀ (l0 : (List S41)) (a1 : Int), (l0.length ≤ 9223372036854775807 ∧ ∀ z ∈ l0, W41 z) → ((-9223372036854775808) ≤ a1 ∧ a1 ≤ 9223372036854775807) → ∃ k, mummerlaw08_FaultsChains.f k l0 a1 = some true
end Go.Proofs.YtdjkdlbokepoaaaGreatDoor.P
