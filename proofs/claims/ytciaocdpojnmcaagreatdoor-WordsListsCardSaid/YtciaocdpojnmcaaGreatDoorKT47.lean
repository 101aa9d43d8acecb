import Derived.Test.YtciaocdpojnmcaaGreatDoorKT37
import Derived.Test.YtciaocdpojnmcaaGreatDoorKT46
namespace Go.Proofs.YtciaocdpojnmcaaGreatDoor.Pure
open Go.RowKit Go.Proofs.YtciaocdpojnmcaaGreatDoor.P Go.Proofs.YtciaocdpojnmcaaGreatDoorW.PrintWords Go.Proofs.YtciaocdpojnmcaaGreatDoorW.PrintLast
theorem WordsLists : mummerlaw01_WordsLists.Goal := fun l0 a1 _ _ => law_lists l0 a1
end Go.Proofs.YtciaocdpojnmcaaGreatDoor.Pure
