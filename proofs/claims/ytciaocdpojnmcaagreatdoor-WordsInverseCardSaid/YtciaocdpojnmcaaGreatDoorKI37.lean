import Derived.Test.YtciaocdpojnmcaaGreatDoorKI33
import Derived.Test.YtciaocdpojnmcaaGreatDoorKI36
namespace Go.Proofs.YtciaocdpojnmcaaGreatDoor.P
open Go.RowKit Go.Proofs.YtciaocdpojnmcaaGreatDoorW.PrintWords Go.Proofs.YtciaocdpojnmcaaGreatDoorW.PrintLast
/-- What is left to prove of the law. -/
def mummerlaw01_WordsInverse.Goal : Prop := ∀ (a0 : ByteArray) (l1 : (List S47)) (l2_0 : (List Int)) (a2_1 : Int), (a0.size ≤ 140737488351232) → (l1.length ≤ 9223372036854775807 ∧ ∀ z ∈ l1, W47 z) → (l2_0.length ≤ 9223372036854775807 ∧ ∀ z ∈ l2_0, ((-9223372036854775808) ≤ z ∧ z ≤ 9223372036854775807)) → ((-9223372036854775808) ≤ a2_1 ∧ a2_1 ≤ 9223372036854775807) → ∃ k, mummerlaw01_WordsInverse.f k a0 l1 l2_0 a2_1 = some true
end Go.Proofs.YtciaocdpojnmcaaGreatDoor.P
