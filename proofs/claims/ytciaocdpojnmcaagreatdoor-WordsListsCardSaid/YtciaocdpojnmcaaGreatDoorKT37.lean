import Derived.Test.YtciaocdpojnmcaaGreatDoorKT33
import Derived.Test.YtciaocdpojnmcaaGreatDoorKT36
namespace Go.Proofs.YtciaocdpojnmcaaGreatDoor.P
open Go.RowKit Go.Proofs.YtciaocdpojnmcaaGreatDoorW.PrintWords Go.Proofs.YtciaocdpojnmcaaGreatDoorW.PrintLast
/-- What is left to prove of the law. -/
def mummerlaw01_WordsLists.Goal : Prop := ∀ (l0 : (List Int)) (a1 : ByteArray), (l0.length ≤ 9223372036854775807 ∧ ∀ z ∈ l0, ((-9223372036854775808) ≤ z ∧ z ≤ 9223372036854775807)) → (a1.size ≤ 140737488351232) → ∃ k, mummerlaw01_WordsLists.f k l0 a1 = some true
end Go.Proofs.YtciaocdpojnmcaaGreatDoor.P
