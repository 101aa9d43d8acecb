import Derived.Test.YtdjkdlbokepoaaaGreatDoorKT35
import Derived.Test.YtdjkdlbokepoaaaGreatDoorKT39
namespace Go.Proofs.YtdjkdlbokepoaaaGreatDoor.P
open Go.RowKit Go.Proofs.YtdjkdlbokepoaaaGreatDoorW.PrintWords Go.Proofs.YtdjkdlbokepoaaaGreatDoorW.PrintLast
/-- What is left to prove of the law. -/
def mummerlaw08_FaultsTells.Goal : Prop := ∀ (l0 : (List Int)) (l1 : (List S41)) (a2 : Int), (l0.length ≤ 9223372036854775807 ∧ ∀ z ∈ l0, (0 ≤ z ∧ z ≤ 255)) → (l1.length ≤ 9223372036854775807 ∧ ∀ z ∈ l1, W41 z) → ((-9223372036854775808) ≤ a2 ∧ a2 ≤ 9223372036854775807) → ∃ k, mummerlaw08_FaultsTells.f k l0 l1 a2 = some true
end Go.Proofs.YtdjkdlbokepoaaaGreatDoor.P
