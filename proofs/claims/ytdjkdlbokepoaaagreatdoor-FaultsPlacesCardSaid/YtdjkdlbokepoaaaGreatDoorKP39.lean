import Derived.Test.YtdjkdlbokepoaaaGreatDoorKP35
import Derived.Test.YtdjkdlbokepoaaaGreatDoorKP38
namespace Go.Proofs.YtdjkdlbokepoaaaGreatDoor.P
open Go.RowKit Go.Proofs.YtdjkdlbokepoaaaGreatDoorW.PrintWords Go.Proofs.YtdjkdlbokepoaaaGreatDoorW.PrintLast
/-- What is left to prove of the law. -/
def mummerlaw08_FaultsPlaces.Goal : Prop := ∀ (l0 : (List Int)), (l0.length ≤ 9223372036854775807 ∧ ∀ z ∈ l0, (0 ≤ z ∧ z ≤ 255)) → ∃ k, mummerlaw08_FaultsPlaces.f k l0 = some true
end Go.Proofs.YtdjkdlbokepoaaaGreatDoor.P
