import Derived.Test.YtdjkdlbokepoaaaGreatDoorKA35
import Derived.Test.YtdjkdlbokepoaaaGreatDoorKA44
namespace Go.Proofs.YtdjkdlbokepoaaaGreatDoor.P
open Go.RowKit YtdjkdlbokepoaaaGreatDoorW.PrintWords YtdjkdlbokepoaaaGreatDoorW.PrintLast
def mummerlaw08_FaultsAsks.Goal : Prop := ∀ (l0 : (List S41)) (a1 : Int) (a2 : Int), (l0.length ≤ 9223372036854775807 ∧ ∀ z ∈ l0, W41 z) → ((-9223372036854775808) ≤ a1 ∧ a1 ≤ 9223372036854775807) → ((-9223372036854775808) ≤ a2 ∧ a2 ≤ 9223372036854775807) → ∃ k, mummerlaw08_FaultsAsks.f k l0 a1 a2 = some true
end Go.Proofs.YtdjkdlbokepoaaaGreatDoor.P
