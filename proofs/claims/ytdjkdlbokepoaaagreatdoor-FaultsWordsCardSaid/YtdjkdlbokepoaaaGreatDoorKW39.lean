import Derived.Test.YtdjkdlbokepoaaaGreatDoorKW35
import Derived.Test.YtdjkdlbokepoaaaGreatDoorKW38
namespace Go.Proofs.YtdjkdlbokepoaaaGreatDoor.P
open Go.RowKit Go.Proofs.YtdjkdlbokepoaaaGreatDoorW.PrintWords Go.Proofs.YtdjkdlbokepoaaaGreatDoorW.PrintLast
/-- What is left to prove of the law. -/
def mummerlaw08_FaultsWords.Goal : Prop := ∀ (l0 : (List Int)) (a1 : Int) (a2 : Int), (l0.length ≤ 9223372036854775807 ∧ ∀ z ∈ l0, (0 ≤ z ∧ z ≤ 255)) → ((-9223372036854775808) ≤ a1 ∧ a1 ≤ 9223372036854775807) → ((-9223372036854775808) ≤ a2 ∧ a2 ≤ 9223372036854775807) → ∃ k, mummerlaw08_FaultsWords.f k l0 a1 a2 = some true
end Go.Proofs.YtdjkdlbokepoaaaGreatDoor.P
