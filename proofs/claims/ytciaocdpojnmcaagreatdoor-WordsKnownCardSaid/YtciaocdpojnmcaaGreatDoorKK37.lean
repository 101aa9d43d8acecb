import Derived.Test.YtciaocdpojnmcaaGreatDoorKK36
namespace Go.Proofs.YtciaocdpojnmcaaGreatDoor.Pure
open Go.RowKit Go.Proofs.YtciaocdpojnmcaaGreatDoor.P Go.Proofs.YtciaocdpojnmcaaGreatDoorW.PrintWords Go.Proofs.YtciaocdpojnmcaaGreatDoorW.PrintLast
theorem WordsKnown : mummerlaw01_WordsKnown.Goal := ⟨100, by decide +kernel⟩
end Go.Proofs.YtciaocdpojnmcaaGreatDoor.Pure
