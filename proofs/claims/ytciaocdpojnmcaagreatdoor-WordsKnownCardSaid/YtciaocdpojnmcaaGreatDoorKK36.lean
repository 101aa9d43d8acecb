import Derived.Test.YtciaocdpojnmcaaGreatDoorKK33
import Derived.Test.YtciaocdpojnmcaaGreatDoorKK35
namespace Go.Proofs.YtciaocdpojnmcaaGreatDoor.P
open Go.RowKit Go.Proofs.YtciaocdpojnmcaaGreatDoorW.PrintWords Go.Proofs.YtciaocdpojnmcaaGreatDoorW.PrintLast
/-- What is left to prove of the law. -/
def mummerlaw01_WordsKnown.Goal : Prop := ∃ k, mummerlaw01_WordsKnown.f k  = some true
end Go.Proofs.YtciaocdpojnmcaaGreatDoor.P
