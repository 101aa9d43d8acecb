import Derived.Test.YtciaocdpojnmcaaGreatDoorKI37
import Derived.Test.YtciaocdpojnmcaaGreatDoorKI62
namespace Go.Proofs.YtciaocdpojnmcaaGreatDoor.Pure
open Go.RowKit Go.Proofs.YtciaocdpojnmcaaGreatDoor.P Go.Proofs.YtciaocdpojnmcaaGreatDoorW.PrintWords Go.Proofs.YtciaocdpojnmcaaGreatDoorW.PrintLast
theorem WordsInverse : mummerlaw01_WordsInverse.Goal := fun a0 l1 l2 n _ _ _ h => law_inverse a0 l1 l2 n h.1 h.2
end Go.Proofs.YtciaocdpojnmcaaGreatDoor.Pure
