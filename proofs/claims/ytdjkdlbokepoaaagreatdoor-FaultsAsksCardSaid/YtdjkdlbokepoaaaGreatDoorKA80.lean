import Derived.Test.YtdjkdlbokepoaaaGreatDoorKA42
import Derived.Test.YtdjkdlbokepoaaaGreatDoorKA79
namespace Go.Proofs.YtdjkdlbokepoaaaGreatDoor.Pure
open Go.RowKit YtdjkdlbokepoaaaGreatDoor.P YtdjkdlbokepoaaaGreatDoorW.PrintWords YtdjkdlbokepoaaaGreatDoorW.PrintLast
theorem FaultsAsks : mummerlaw08_FaultsAsks.Goal := fun l0 a1 a2 _ _ _ => law_asks l0 a1 a2
end Go.Proofs.YtdjkdlbokepoaaaGreatDoor.Pure
