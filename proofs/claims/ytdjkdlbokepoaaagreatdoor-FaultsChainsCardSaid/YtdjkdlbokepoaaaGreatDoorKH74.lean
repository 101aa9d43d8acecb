import Derived.Test.YtdjkdlbokepoaaaGreatDoorKH37
import Derived.Test.YtdjkdlbokepoaaaGreatDoorKH73
namespace Go.Proofs.YtdjkdlbokepoaaaGreatDoor.Pure
open Go.RowKit Go.Proofs.YtdjkdlbokepoaaaGreatDoor.P Go.Proofs.YtdjkdlbokepoaaaGreatDoorW.PrintWords Go.Proofs.YtdjkdlbokepoaaaGreatDoorW.PrintLast
theorem FaultsChains : mummerlaw08_FaultsChains.Goal := fun l0 a1 _ _ => law_chains l0 a1
end Go.Proofs.YtdjkdlbokepoaaaGreatDoor.Pure
